/- WireBack: a frame is taken from its bytes: for every frame and every two texts. No condition beyond the card's. -/
import Derived.Test.YtfedhhndkeakhaaDoorWireF
import Derived.Test.YtfedhhndkeakhaaDoorWireH
namespace Go.Proofs.YtfedhhndkeakhaaDoor
open Go.RowKit Go.Shelf

namespace wireBack
open Go.ChangeShapes Go.WideShapes Go.ChangeAt
open Go.ChangeMaps (open_string)
attribute [local go_sem ↓] Go.wp_at_zero Go.wp_at_succ

theorem take_back {f : Fr} (hr : rightF f = true) (c u : ByteArray) : TakeA (c ++ (encA f).1 ++ u) c.size = (f, (c.size : Int) + (encA f).1.size, 0) := by
  have hx : ls ((c ++ (encA f).1 ++ u).extract c.size (c ++ (encA f).1 ++ u).size) = ls (encA f).1 ++ ls u := by
    rw [ls_tail, ls_append, ls_append, List.append_assoc, ls_size, List.drop_left]
  obtain ⟨t1, t2, t3⟩ := try_frame hr hx
  rw [TakeA_none (by rw [ByteArray.size_append, ByteArray.size_append]; omega) t1, t2, t3, encA_size hr]
  simp
  omega
theorem take_zero (u : ByteArray) : ∃ g n q, TakeA u 0 = (g, n, q) ∧ True ∧ ((q = 0 ∧ 5 ≤ n ∧ n ≤ (u.size : Int) ∧ (encA g).1 = u.extract 0 n.toNat ∧ rightF g = true ∧ g.data.size ≤ maxLen) ∨ (q ≠ 0 ∧ n = 0 ∧ g.data.size ≤ maxLen)) := by
  have hu : u.extract 0 u.size = u := ls_ext (by rw [ls_tail]; rfl)
  cases ht : tryE (u.extract 0 u.size) with
  | some q =>
    refine ⟨_, _, _, TakeA_some (a := 0) (by omega) ht, trivial, .inr ⟨told_pos (tryE_lt _ _ ht), rfl, ?_⟩⟩
    show (0 : Nat) ≤ maxLen
    exact Nat.zero_le _
  | none =>
    obtain ⟨h1, h2, h3, h4⟩ := enc_of_try ht
    have := (right_bd h2).2.2.2.2
    refine ⟨_, _, _, TakeA_none (a := 0) (by omega) ht, trivial, .inl ⟨rfl, by omega, ?_, ?_, h2, by unfold maxLen; omega⟩⟩
    · rw [hu] at h4 ⊢; simp only [Int.natCast_zero]; omega
    · rw [h1, hu]; simp
set_option maxRecDepth 100000 in
set_option maxHeartbeats 4000000 in
theorem walk_11 (k st : Int) (d d' : ByteArray) (hx : d.size ≤ maxLen) (hcut : d.extract 0 (min d.size 513) = d') (hdd : d'.size ≤ maxLen)
    (s t c u : ByteArray) (hs : s.size ≤ maxLen) (ht : t.size ≤ maxLen) (hc : cutS s = c) (hu : cutS t = u) (hcs : c.size ≤ maxLen) (hus : u.size ≤ maxLen) (hR : rightF ⟨k, st, d'⟩ = true) (a : ByteArray) (hA : encA ⟨k, st, d'⟩ = (a, 0)) (hz : (c ++ a ++ u).size ≤ maxLen) (hT : TakeA (c ++ a ++ u) c.size = (⟨k, st, d'⟩, ((c.size : Int) + a.size), 0)) (hcn : IntKind.i64.wrap ((c.size : Int) + a.size) = (c.size : Int) + a.size) (k3 st3 : Int) (d3 : ByteArray) (n3 : Int) (b : ByteArray) (hd3 : d3.size ≤ maxLen) (hT2 : TakeA u 0 = (⟨k3, st3, d3⟩, n3, 0)) (hA2 : encA ⟨k3, st3, d3⟩ = (b, 0)) (h5 : (5 : Int) ≤ n3) (hn : n3 ≤ (u.size : Int)) (h0 : (0 : Int) ≤ n3) (hb : u.extract 0 n3.toNat = b)
    (w : World) (e : Nat → Addr) (he : Env w e) :
    Calls Tryd.prog 5 #[.agg #[.int .i64 k, .int .i64 st, .string d], .string s, .string t] w fun e w' => e = .returned (.bool true) ∧ Below w.heap.size w w' := by
  have hzz := hz
  rw [ByteArray.size_append, ByteArray.size_append] at hzz
  unfold maxLen at hzz
  have hb1 : ¬ (c.size + a.size > 9223372036854775807) := by omega
  have hb2 : ¬ (c.size + a.size + u.size > 9223372036854775807) := by omega
  have hb3 : ¬ ((c ++ a).size + u.size > 9223372036854775807) := by rw [ByteArray.size_append]; omega
  clear hzz
  have HS := Lib.hid hs
  have HT0 := Lib.hid ht
  have HC := Lib.hid hc
  have HU := Lib.hid hu
  have HCS := Lib.hid hcs
  have HUS := Lib.hid hus
  have HR := Lib.hid hR
  have HA := Lib.hid hA
  have HZ := Lib.hid hz
  have HT := Lib.hid hT
  have HD3 := Lib.hid hd3
  have HT2 := Lib.hid hT2
  have HA2 := Lib.hid hA2
  clear hs ht hc hu hcs hus hR hA hz hT hd3 hT2 hA2
  have HX := Lib.hid hx
  have HCUT := Lib.hid hcut
  have HDD := Lib.hid hdd
  have HE0 := Lib.hid he
  have HB := Lib.hid (Blk.new w 23 (Fr.mk k st d).cells)
  have HK := Lib.hid ((Keeps.refl [] w).alloc (.cells (Fr.mk k st d).cells 23))
  clear hx hcut hdd he
  go_enter Tryd.func5, Tryd.ntmps5
  go_wp2_with (fail)
  refine (wshown_any _ e (HE0.out.keep HK.out)).mono ?_
  rintro r w1 ⟨rfl, hk⟩
  have HB := Lib.hid (HB.out.keeps hk (by simp))
  have HK := Lib.hid (HK.out.trans hk)
  clear hk
  obtain ⟨c0, c1, c2⟩ := fr_res (f := ⟨k, st, d⟩) HB.out
  go_wp2_with (fail)
  refine (cut1_any k st d d' HX.out HCUT.out _).mono ?_
  rintro r w1 ⟨g, off, cp, rfl, hc1, x0, x1, x2, hk⟩
  clear c0 c1 c2
  have HB := Lib.hid (HB.out.keeps hk (by simp))
  have HK := Lib.hid (HK.out.trans hk)
  clear hk
  obtain ⟨c0, c1, c2⟩ := fr_res (f := ⟨k, st, d⟩) HB.out
  have hfz := fun i => HB.out.frozen i
  dsimp only at c0 c1 c2
  go_wp2_with (fail)
  have HB := Lib.hid (blk_set3 HB.out (.int .i64 k) (.int .i64 st) (.string d'))
  have HK := Lib.hid (keeps_set3 HK.out (Nat.le_refl _) (.int .i64 k) (.int .i64 st) (.string d'))
  clear c0 c1 c2 x0 x1 x2 hfz
  refine (cut_any s HS.out _).mono ?_
  rintro r w1 ⟨rfl, rfl⟩
  rw [HC.out]
  go_wp2_with (fail)
  refine (cut_any t HT0.out _).mono ?_
  rintro r w1 ⟨rfl, rfl⟩
  rw [HU.out]
  obtain ⟨c0, c1, c2⟩ := fr_res (f := ⟨k, st, d'⟩) HB.out
  dsimp only at c0 c1 c2
  go_wp2_with (fail)
  refine (encode_any ⟨k, st, d'⟩ HDD.out a 0 HA.out _ e (HE0.out.keep HK.out)).mono ?_
  rintro r w1 ⟨rfl, hk⟩
  have HB := Lib.hid (HB.out.keeps hk (by simp))
  have HK := Lib.hid (HK.out.trans hk)
  clear hk
  clear c0 c1 c2
  obtain ⟨c0, c1, c2⟩ := fr_res (f := ⟨k, st, d'⟩) HB.out
  dsimp only at c0 c1 c2
  go_wp2_with (fail)
  refine (Take_any (c ++ a ++ u) HZ.out c.size ⟨k, st, d'⟩ ((c.size : Int) + a.size) 0 HT.out _ e (HE0.out.keep HK.out)).mono ?_
  rintro r wt ⟨rfl, hk⟩
  unfold Fr.v
  have HD := Lib.hid (Blk.new wt 23 #[.int .i64 k, .int .i64 st, .string d'])
  have hk := hk.alloc (.cells #[.int .i64 k, .int .i64 st, .string d'] 23)
  have HB := Lib.hid (HB.out.keeps hk (by simp))
  have HK := Lib.hid (HK.out.trans hk)
  clear hk
  clear c0 c1 c2
  obtain ⟨c0, c1, c2⟩ := fr_res (f := ⟨k, st, d'⟩) HB.out
  dsimp only at c0 c1 c2
  obtain ⟨d0, d1, d2'⟩ := fr_res (f := ⟨k, st, d'⟩) HD.out
  dsimp only at d0 d1 d2'
  have hgu := fr_guard
  have hne := fr_neq ⟨k, st, d'⟩ ⟨k, st, d'⟩ false (by rw [frB_refl]; rfl)
  dsimp only at hne
  go_wp2_with (fail)
  refine (Take_any u HUS.out 0 ⟨k3, st3, d3⟩ n3 0 HT2.out _ e (HE0.out.keep HK.out)).mono ?_
  rintro r wu ⟨rfl, hk⟩
  unfold Fr.v
  have HF := Lib.hid (Blk.new wu 23 #[.int .i64 k3, .int .i64 st3, .string d3])
  have hk := hk.alloc (.cells #[.int .i64 k3, .int .i64 st3, .string d3] 23)
  have HB := Lib.hid (HB.out.keeps hk (by simp))
  have HK := Lib.hid (HK.out.trans hk)
  clear hk
  clear c0 c1 c2 d0 d1 d2' hgu hne
  obtain ⟨c0, c1, c2⟩ := fr_res (f := ⟨k, st, d'⟩) HB.out
  dsimp only at c0 c1 c2
  obtain ⟨f0, f1, f2⟩ := fr_res (f := ⟨k3, st3, d3⟩) HF.out
  dsimp only at f0 f1 f2
  go_wp2_with (fail)
  refine (encode_any ⟨k3, st3, d3⟩ HD3.out b 0 HA2.out _ e (HE0.out.keep HK.out)).mono ?_
  rintro r w1 ⟨rfl, hk⟩
  have HB := Lib.hid (HB.out.keeps hk (by simp))
  have HK := Lib.hid (HK.out.trans hk)
  clear hk
  clear c0 c1 c2 f0 f1 f2
  obtain ⟨c0, c1, c2⟩ := fr_res (f := ⟨k, st, d'⟩) HB.out
  dsimp only at c0 c1 c2
  go_wp2_with (fail)
  refine (right_any ⟨k, st, d'⟩ HDD.out true HR.out _).mono ?_
  rintro r w1 ⟨rfl, hk⟩
  have HK := Lib.hid (HK.out.trans hk)
  clear hk
  go_wp2_with (fail)
  go_ret
  exact ⟨rfl, HK.out.below (Nat.le_refl _) (by simp)⟩

set_option maxRecDepth 100000 in
set_option maxHeartbeats 4000000 in
theorem walk_10 (k st : Int) (d d' : ByteArray) (hx : d.size ≤ maxLen) (hcut : d.extract 0 (min d.size 513) = d') (hdd : d'.size ≤ maxLen)
    (s t c u : ByteArray) (hs : s.size ≤ maxLen) (ht : t.size ≤ maxLen) (hc : cutS s = c) (hu : cutS t = u) (hcs : c.size ≤ maxLen) (hus : u.size ≤ maxLen) (hR : rightF ⟨k, st, d'⟩ = true) (a : ByteArray) (hA : encA ⟨k, st, d'⟩ = (a, 0)) (hz : (c ++ a ++ u).size ≤ maxLen) (hT : TakeA (c ++ a ++ u) c.size = (⟨k, st, d'⟩, ((c.size : Int) + a.size), 0)) (hcn : IntKind.i64.wrap ((c.size : Int) + a.size) = (c.size : Int) + a.size) (k3 st3 : Int) (d3 : ByteArray) (q3 : Int) (b : ByteArray) (q4 : Int) (hd3 : d3.size ≤ maxLen) (hT2 : TakeA u 0 = (⟨k3, st3, d3⟩, 0, q3)) (hA2 : encA ⟨k3, st3, d3⟩ = (b, q4)) (hq3 : (q3 != 0) = true) (_hq4 : (q3 == 0) = false)
    (w : World) (e : Nat → Addr) (he : Env w e) :
    Calls Tryd.prog 5 #[.agg #[.int .i64 k, .int .i64 st, .string d], .string s, .string t] w fun e w' => e = .returned (.bool true) ∧ Below w.heap.size w w' := by
  have hzz := hz
  rw [ByteArray.size_append, ByteArray.size_append] at hzz
  unfold maxLen at hzz
  have hb1 : ¬ (c.size + a.size > 9223372036854775807) := by omega
  have hb2 : ¬ (c.size + a.size + u.size > 9223372036854775807) := by omega
  have hb3 : ¬ ((c ++ a).size + u.size > 9223372036854775807) := by rw [ByteArray.size_append]; omega
  clear hzz
  have HS := Lib.hid hs
  have HT0 := Lib.hid ht
  have HC := Lib.hid hc
  have HU := Lib.hid hu
  have HCS := Lib.hid hcs
  have HUS := Lib.hid hus
  have HR := Lib.hid hR
  have HA := Lib.hid hA
  have HZ := Lib.hid hz
  have HT := Lib.hid hT
  have HD3 := Lib.hid hd3
  have HT2 := Lib.hid hT2
  have HA2 := Lib.hid hA2
  clear hs ht hc hu hcs hus hR hA hz hT hd3 hT2 hA2
  have HX := Lib.hid hx
  have HCUT := Lib.hid hcut
  have HDD := Lib.hid hdd
  have HE0 := Lib.hid he
  have HB := Lib.hid (Blk.new w 23 (Fr.mk k st d).cells)
  have HK := Lib.hid ((Keeps.refl [] w).alloc (.cells (Fr.mk k st d).cells 23))
  clear hx hcut hdd he
  go_enter Tryd.func5, Tryd.ntmps5
  go_wp2_with (fail)
  refine (wshown_any _ e (HE0.out.keep HK.out)).mono ?_
  rintro r w1 ⟨rfl, hk⟩
  have HB := Lib.hid (HB.out.keeps hk (by simp))
  have HK := Lib.hid (HK.out.trans hk)
  clear hk
  obtain ⟨c0, c1, c2⟩ := fr_res (f := ⟨k, st, d⟩) HB.out
  go_wp2_with (fail)
  refine (cut1_any k st d d' HX.out HCUT.out _).mono ?_
  rintro r w1 ⟨g, off, cp, rfl, hc1, x0, x1, x2, hk⟩
  clear c0 c1 c2
  have HB := Lib.hid (HB.out.keeps hk (by simp))
  have HK := Lib.hid (HK.out.trans hk)
  clear hk
  obtain ⟨c0, c1, c2⟩ := fr_res (f := ⟨k, st, d⟩) HB.out
  have hfz := fun i => HB.out.frozen i
  dsimp only at c0 c1 c2
  go_wp2_with (fail)
  have HB := Lib.hid (blk_set3 HB.out (.int .i64 k) (.int .i64 st) (.string d'))
  have HK := Lib.hid (keeps_set3 HK.out (Nat.le_refl _) (.int .i64 k) (.int .i64 st) (.string d'))
  clear c0 c1 c2 x0 x1 x2 hfz
  refine (cut_any s HS.out _).mono ?_
  rintro r w1 ⟨rfl, rfl⟩
  rw [HC.out]
  go_wp2_with (fail)
  refine (cut_any t HT0.out _).mono ?_
  rintro r w1 ⟨rfl, rfl⟩
  rw [HU.out]
  obtain ⟨c0, c1, c2⟩ := fr_res (f := ⟨k, st, d'⟩) HB.out
  dsimp only at c0 c1 c2
  go_wp2_with (fail)
  refine (encode_any ⟨k, st, d'⟩ HDD.out a 0 HA.out _ e (HE0.out.keep HK.out)).mono ?_
  rintro r w1 ⟨rfl, hk⟩
  have HB := Lib.hid (HB.out.keeps hk (by simp))
  have HK := Lib.hid (HK.out.trans hk)
  clear hk
  clear c0 c1 c2
  obtain ⟨c0, c1, c2⟩ := fr_res (f := ⟨k, st, d'⟩) HB.out
  dsimp only at c0 c1 c2
  go_wp2_with (fail)
  refine (Take_any (c ++ a ++ u) HZ.out c.size ⟨k, st, d'⟩ ((c.size : Int) + a.size) 0 HT.out _ e (HE0.out.keep HK.out)).mono ?_
  rintro r wt ⟨rfl, hk⟩
  unfold Fr.v
  have HD := Lib.hid (Blk.new wt 23 #[.int .i64 k, .int .i64 st, .string d'])
  have hk := hk.alloc (.cells #[.int .i64 k, .int .i64 st, .string d'] 23)
  have HB := Lib.hid (HB.out.keeps hk (by simp))
  have HK := Lib.hid (HK.out.trans hk)
  clear hk
  clear c0 c1 c2
  obtain ⟨c0, c1, c2⟩ := fr_res (f := ⟨k, st, d'⟩) HB.out
  dsimp only at c0 c1 c2
  obtain ⟨d0, d1, d2'⟩ := fr_res (f := ⟨k, st, d'⟩) HD.out
  dsimp only at d0 d1 d2'
  have hgu := fr_guard
  have hne := fr_neq ⟨k, st, d'⟩ ⟨k, st, d'⟩ false (by rw [frB_refl]; rfl)
  dsimp only at hne
  go_wp2_with (fail)
  refine (Take_any u HUS.out 0 ⟨k3, st3, d3⟩ 0 q3 HT2.out _ e (HE0.out.keep HK.out)).mono ?_
  rintro r wu ⟨rfl, hk⟩
  unfold Fr.v
  have HF := Lib.hid (Blk.new wu 23 #[.int .i64 k3, .int .i64 st3, .string d3])
  have hk := hk.alloc (.cells #[.int .i64 k3, .int .i64 st3, .string d3] 23)
  have HB := Lib.hid (HB.out.keeps hk (by simp))
  have HK := Lib.hid (HK.out.trans hk)
  clear hk
  clear c0 c1 c2 d0 d1 d2' hgu hne
  obtain ⟨c0, c1, c2⟩ := fr_res (f := ⟨k, st, d'⟩) HB.out
  dsimp only at c0 c1 c2
  obtain ⟨f0, f1, f2⟩ := fr_res (f := ⟨k3, st3, d3⟩) HF.out
  dsimp only at f0 f1 f2
  go_wp2_with (fail)
  refine (encode_any ⟨k3, st3, d3⟩ HD3.out b q4 HA2.out _ e (HE0.out.keep HK.out)).mono ?_
  rintro r w1 ⟨rfl, hk⟩
  have HB := Lib.hid (HB.out.keeps hk (by simp))
  have HK := Lib.hid (HK.out.trans hk)
  clear hk
  clear c0 c1 c2 f0 f1 f2
  obtain ⟨c0, c1, c2⟩ := fr_res (f := ⟨k, st, d'⟩) HB.out
  dsimp only at c0 c1 c2
  go_wp2_with (fail)
  refine (right_any ⟨k, st, d'⟩ HDD.out true HR.out _).mono ?_
  rintro r w1 ⟨rfl, hk⟩
  have HK := Lib.hid (HK.out.trans hk)
  clear hk
  go_wp2_with (fail)
  go_ret
  exact ⟨rfl, HK.out.below (Nat.le_refl _) (by simp)⟩

set_option maxRecDepth 100000 in
set_option maxHeartbeats 4000000 in
theorem walk_01 (k st : Int) (d d' : ByteArray) (hx : d.size ≤ maxLen) (hcut : d.extract 0 (min d.size 513) = d') (hdd : d'.size ≤ maxLen)
    (s t c u : ByteArray) (hs : s.size ≤ maxLen) (ht : t.size ≤ maxLen) (hc : cutS s = c) (hu : cutS t = u) (hcs : c.size ≤ maxLen) (hus : u.size ≤ maxLen) (hR : rightF ⟨k, st, d'⟩ = false) (a : ByteArray) (hA : encA ⟨k, st, d'⟩ = (a, 33)) (hz : (c ++ a ++ u).size ≤ maxLen) (k2 st2 : Int) (d2 : ByteArray) (n2 q2 : Int) (hT : TakeA (c ++ a ++ u) c.size = (⟨k2, st2, d2⟩, n2, q2)) (k3 st3 : Int) (d3 : ByteArray) (n3 : Int) (b : ByteArray) (hd3 : d3.size ≤ maxLen) (hT2 : TakeA u 0 = (⟨k3, st3, d3⟩, n3, 0)) (hA2 : encA ⟨k3, st3, d3⟩ = (b, 0)) (h5 : (5 : Int) ≤ n3) (hn : n3 ≤ (u.size : Int)) (h0 : (0 : Int) ≤ n3) (hb : u.extract 0 n3.toNat = b)
    (w : World) (e : Nat → Addr) (he : Env w e) :
    Calls Tryd.prog 5 #[.agg #[.int .i64 k, .int .i64 st, .string d], .string s, .string t] w fun e w' => e = .returned (.bool true) ∧ Below w.heap.size w w' := by
  have hzz := hz
  rw [ByteArray.size_append, ByteArray.size_append] at hzz
  unfold maxLen at hzz
  have hb1 : ¬ (c.size + a.size > 9223372036854775807) := by omega
  have hb2 : ¬ (c.size + a.size + u.size > 9223372036854775807) := by omega
  have hb3 : ¬ ((c ++ a).size + u.size > 9223372036854775807) := by rw [ByteArray.size_append]; omega
  clear hzz
  have HS := Lib.hid hs
  have HT0 := Lib.hid ht
  have HC := Lib.hid hc
  have HU := Lib.hid hu
  have HCS := Lib.hid hcs
  have HUS := Lib.hid hus
  have HR := Lib.hid hR
  have HA := Lib.hid hA
  have HZ := Lib.hid hz
  have HT := Lib.hid hT
  have HD3 := Lib.hid hd3
  have HT2 := Lib.hid hT2
  have HA2 := Lib.hid hA2
  clear hs ht hc hu hcs hus hR hA hz hT hd3 hT2 hA2
  have HX := Lib.hid hx
  have HCUT := Lib.hid hcut
  have HDD := Lib.hid hdd
  have HE0 := Lib.hid he
  have HB := Lib.hid (Blk.new w 23 (Fr.mk k st d).cells)
  have HK := Lib.hid ((Keeps.refl [] w).alloc (.cells (Fr.mk k st d).cells 23))
  clear hx hcut hdd he
  go_enter Tryd.func5, Tryd.ntmps5
  go_wp2_with (fail)
  refine (wshown_any _ e (HE0.out.keep HK.out)).mono ?_
  rintro r w1 ⟨rfl, hk⟩
  have HB := Lib.hid (HB.out.keeps hk (by simp))
  have HK := Lib.hid (HK.out.trans hk)
  clear hk
  obtain ⟨c0, c1, c2⟩ := fr_res (f := ⟨k, st, d⟩) HB.out
  go_wp2_with (fail)
  refine (cut1_any k st d d' HX.out HCUT.out _).mono ?_
  rintro r w1 ⟨g, off, cp, rfl, hc1, x0, x1, x2, hk⟩
  clear c0 c1 c2
  have HB := Lib.hid (HB.out.keeps hk (by simp))
  have HK := Lib.hid (HK.out.trans hk)
  clear hk
  obtain ⟨c0, c1, c2⟩ := fr_res (f := ⟨k, st, d⟩) HB.out
  have hfz := fun i => HB.out.frozen i
  dsimp only at c0 c1 c2
  go_wp2_with (fail)
  have HB := Lib.hid (blk_set3 HB.out (.int .i64 k) (.int .i64 st) (.string d'))
  have HK := Lib.hid (keeps_set3 HK.out (Nat.le_refl _) (.int .i64 k) (.int .i64 st) (.string d'))
  clear c0 c1 c2 x0 x1 x2 hfz
  refine (cut_any s HS.out _).mono ?_
  rintro r w1 ⟨rfl, rfl⟩
  rw [HC.out]
  go_wp2_with (fail)
  refine (cut_any t HT0.out _).mono ?_
  rintro r w1 ⟨rfl, rfl⟩
  rw [HU.out]
  obtain ⟨c0, c1, c2⟩ := fr_res (f := ⟨k, st, d'⟩) HB.out
  dsimp only at c0 c1 c2
  go_wp2_with (fail)
  refine (encode_any ⟨k, st, d'⟩ HDD.out a 33 HA.out _ e (HE0.out.keep HK.out)).mono ?_
  rintro r w1 ⟨rfl, hk⟩
  have HB := Lib.hid (HB.out.keeps hk (by simp))
  have HK := Lib.hid (HK.out.trans hk)
  clear hk
  clear c0 c1 c2
  obtain ⟨c0, c1, c2⟩ := fr_res (f := ⟨k, st, d'⟩) HB.out
  dsimp only at c0 c1 c2
  go_wp2_with (fail)
  refine (Take_any (c ++ a ++ u) HZ.out c.size ⟨k2, st2, d2⟩ n2 q2 HT.out _ e (HE0.out.keep HK.out)).mono ?_
  rintro r wt ⟨rfl, hk⟩
  unfold Fr.v
  have HD := Lib.hid (Blk.new wt 23 #[.int .i64 k2, .int .i64 st2, .string d2])
  have hk := hk.alloc (.cells #[.int .i64 k2, .int .i64 st2, .string d2] 23)
  have HB := Lib.hid (HB.out.keeps hk (by simp))
  have HK := Lib.hid (HK.out.trans hk)
  clear hk
  clear c0 c1 c2
  obtain ⟨c0, c1, c2⟩ := fr_res (f := ⟨k, st, d'⟩) HB.out
  dsimp only at c0 c1 c2
  go_wp2_with (fail)
  refine (Take_any u HUS.out 0 ⟨k3, st3, d3⟩ n3 0 HT2.out _ e (HE0.out.keep HK.out)).mono ?_
  rintro r wu ⟨rfl, hk⟩
  unfold Fr.v
  have HF := Lib.hid (Blk.new wu 23 #[.int .i64 k3, .int .i64 st3, .string d3])
  have hk := hk.alloc (.cells #[.int .i64 k3, .int .i64 st3, .string d3] 23)
  have HB := Lib.hid (HB.out.keeps hk (by simp))
  have HK := Lib.hid (HK.out.trans hk)
  clear hk
  clear c0 c1 c2
  obtain ⟨c0, c1, c2⟩ := fr_res (f := ⟨k, st, d'⟩) HB.out
  dsimp only at c0 c1 c2
  obtain ⟨f0, f1, f2⟩ := fr_res (f := ⟨k3, st3, d3⟩) HF.out
  dsimp only at f0 f1 f2
  go_wp2_with (fail)
  refine (encode_any ⟨k3, st3, d3⟩ HD3.out b 0 HA2.out _ e (HE0.out.keep HK.out)).mono ?_
  rintro r w1 ⟨rfl, hk⟩
  have HB := Lib.hid (HB.out.keeps hk (by simp))
  have HK := Lib.hid (HK.out.trans hk)
  clear hk
  clear c0 c1 c2 f0 f1 f2
  obtain ⟨c0, c1, c2⟩ := fr_res (f := ⟨k, st, d'⟩) HB.out
  dsimp only at c0 c1 c2
  go_wp2_with (fail)
  refine (right_any ⟨k, st, d'⟩ HDD.out false HR.out _).mono ?_
  rintro r w1 ⟨rfl, hk⟩
  have HK := Lib.hid (HK.out.trans hk)
  clear hk
  go_wp2_with (fail)
  go_ret
  exact ⟨rfl, HK.out.below (Nat.le_refl _) (by simp)⟩

set_option maxRecDepth 100000 in
set_option maxHeartbeats 4000000 in
theorem walk_00 (k st : Int) (d d' : ByteArray) (hx : d.size ≤ maxLen) (hcut : d.extract 0 (min d.size 513) = d') (hdd : d'.size ≤ maxLen)
    (s t c u : ByteArray) (hs : s.size ≤ maxLen) (ht : t.size ≤ maxLen) (hc : cutS s = c) (hu : cutS t = u) (hcs : c.size ≤ maxLen) (hus : u.size ≤ maxLen) (hR : rightF ⟨k, st, d'⟩ = false) (a : ByteArray) (hA : encA ⟨k, st, d'⟩ = (a, 33)) (hz : (c ++ a ++ u).size ≤ maxLen) (k2 st2 : Int) (d2 : ByteArray) (n2 q2 : Int) (hT : TakeA (c ++ a ++ u) c.size = (⟨k2, st2, d2⟩, n2, q2)) (k3 st3 : Int) (d3 : ByteArray) (q3 : Int) (b : ByteArray) (q4 : Int) (hd3 : d3.size ≤ maxLen) (hT2 : TakeA u 0 = (⟨k3, st3, d3⟩, 0, q3)) (hA2 : encA ⟨k3, st3, d3⟩ = (b, q4)) (hq3 : (q3 != 0) = true) (_hq4 : (q3 == 0) = false)
    (w : World) (e : Nat → Addr) (he : Env w e) :
    Calls Tryd.prog 5 #[.agg #[.int .i64 k, .int .i64 st, .string d], .string s, .string t] w fun e w' => e = .returned (.bool true) ∧ Below w.heap.size w w' := by
  have hzz := hz
  rw [ByteArray.size_append, ByteArray.size_append] at hzz
  unfold maxLen at hzz
  have hb1 : ¬ (c.size + a.size > 9223372036854775807) := by omega
  have hb2 : ¬ (c.size + a.size + u.size > 9223372036854775807) := by omega
  have hb3 : ¬ ((c ++ a).size + u.size > 9223372036854775807) := by rw [ByteArray.size_append]; omega
  clear hzz
  have HS := Lib.hid hs
  have HT0 := Lib.hid ht
  have HC := Lib.hid hc
  have HU := Lib.hid hu
  have HCS := Lib.hid hcs
  have HUS := Lib.hid hus
  have HR := Lib.hid hR
  have HA := Lib.hid hA
  have HZ := Lib.hid hz
  have HT := Lib.hid hT
  have HD3 := Lib.hid hd3
  have HT2 := Lib.hid hT2
  have HA2 := Lib.hid hA2
  clear hs ht hc hu hcs hus hR hA hz hT hd3 hT2 hA2
  have HX := Lib.hid hx
  have HCUT := Lib.hid hcut
  have HDD := Lib.hid hdd
  have HE0 := Lib.hid he
  have HB := Lib.hid (Blk.new w 23 (Fr.mk k st d).cells)
  have HK := Lib.hid ((Keeps.refl [] w).alloc (.cells (Fr.mk k st d).cells 23))
  clear hx hcut hdd he
  go_enter Tryd.func5, Tryd.ntmps5
  go_wp2_with (fail)
  refine (wshown_any _ e (HE0.out.keep HK.out)).mono ?_
  rintro r w1 ⟨rfl, hk⟩
  have HB := Lib.hid (HB.out.keeps hk (by simp))
  have HK := Lib.hid (HK.out.trans hk)
  clear hk
  obtain ⟨c0, c1, c2⟩ := fr_res (f := ⟨k, st, d⟩) HB.out
  go_wp2_with (fail)
  refine (cut1_any k st d d' HX.out HCUT.out _).mono ?_
  rintro r w1 ⟨g, off, cp, rfl, hc1, x0, x1, x2, hk⟩
  clear c0 c1 c2
  have HB := Lib.hid (HB.out.keeps hk (by simp))
  have HK := Lib.hid (HK.out.trans hk)
  clear hk
  obtain ⟨c0, c1, c2⟩ := fr_res (f := ⟨k, st, d⟩) HB.out
  have hfz := fun i => HB.out.frozen i
  dsimp only at c0 c1 c2
  go_wp2_with (fail)
  have HB := Lib.hid (blk_set3 HB.out (.int .i64 k) (.int .i64 st) (.string d'))
  have HK := Lib.hid (keeps_set3 HK.out (Nat.le_refl _) (.int .i64 k) (.int .i64 st) (.string d'))
  clear c0 c1 c2 x0 x1 x2 hfz
  refine (cut_any s HS.out _).mono ?_
  rintro r w1 ⟨rfl, rfl⟩
  rw [HC.out]
  go_wp2_with (fail)
  refine (cut_any t HT0.out _).mono ?_
  rintro r w1 ⟨rfl, rfl⟩
  rw [HU.out]
  obtain ⟨c0, c1, c2⟩ := fr_res (f := ⟨k, st, d'⟩) HB.out
  dsimp only at c0 c1 c2
  go_wp2_with (fail)
  refine (encode_any ⟨k, st, d'⟩ HDD.out a 33 HA.out _ e (HE0.out.keep HK.out)).mono ?_
  rintro r w1 ⟨rfl, hk⟩
  have HB := Lib.hid (HB.out.keeps hk (by simp))
  have HK := Lib.hid (HK.out.trans hk)
  clear hk
  clear c0 c1 c2
  obtain ⟨c0, c1, c2⟩ := fr_res (f := ⟨k, st, d'⟩) HB.out
  dsimp only at c0 c1 c2
  go_wp2_with (fail)
  refine (Take_any (c ++ a ++ u) HZ.out c.size ⟨k2, st2, d2⟩ n2 q2 HT.out _ e (HE0.out.keep HK.out)).mono ?_
  rintro r wt ⟨rfl, hk⟩
  unfold Fr.v
  have HD := Lib.hid (Blk.new wt 23 #[.int .i64 k2, .int .i64 st2, .string d2])
  have hk := hk.alloc (.cells #[.int .i64 k2, .int .i64 st2, .string d2] 23)
  have HB := Lib.hid (HB.out.keeps hk (by simp))
  have HK := Lib.hid (HK.out.trans hk)
  clear hk
  clear c0 c1 c2
  obtain ⟨c0, c1, c2⟩ := fr_res (f := ⟨k, st, d'⟩) HB.out
  dsimp only at c0 c1 c2
  go_wp2_with (fail)
  refine (Take_any u HUS.out 0 ⟨k3, st3, d3⟩ 0 q3 HT2.out _ e (HE0.out.keep HK.out)).mono ?_
  rintro r wu ⟨rfl, hk⟩
  unfold Fr.v
  have HF := Lib.hid (Blk.new wu 23 #[.int .i64 k3, .int .i64 st3, .string d3])
  have hk := hk.alloc (.cells #[.int .i64 k3, .int .i64 st3, .string d3] 23)
  have HB := Lib.hid (HB.out.keeps hk (by simp))
  have HK := Lib.hid (HK.out.trans hk)
  clear hk
  clear c0 c1 c2
  obtain ⟨c0, c1, c2⟩ := fr_res (f := ⟨k, st, d'⟩) HB.out
  dsimp only at c0 c1 c2
  obtain ⟨f0, f1, f2⟩ := fr_res (f := ⟨k3, st3, d3⟩) HF.out
  dsimp only at f0 f1 f2
  go_wp2_with (fail)
  refine (encode_any ⟨k3, st3, d3⟩ HD3.out b q4 HA2.out _ e (HE0.out.keep HK.out)).mono ?_
  rintro r w1 ⟨rfl, hk⟩
  have HB := Lib.hid (HB.out.keeps hk (by simp))
  have HK := Lib.hid (HK.out.trans hk)
  clear hk
  clear c0 c1 c2 f0 f1 f2
  obtain ⟨c0, c1, c2⟩ := fr_res (f := ⟨k, st, d'⟩) HB.out
  dsimp only at c0 c1 c2
  go_wp2_with (fail)
  refine (right_any ⟨k, st, d'⟩ HDD.out false HR.out _).mono ?_
  rintro r w1 ⟨rfl, hk⟩
  have HK := Lib.hid (HK.out.trans hk)
  clear hk
  go_wp2_with (fail)
  go_ret
  exact ⟨rfl, HK.out.below (Nat.le_refl _) (by simp)⟩

theorem walk (x : Fr) (s t : ByteArray) (hx : x.data.size ≤ maxLen) (hs : s.size ≤ maxLen) (ht : t.size ≤ maxLen) (w : World) (e : Nat → Addr) (he : Env w e) :
    Calls Tryd.prog 5 #[x.v, .string s, .string t] w fun e w' => e = .returned (.bool true) ∧ Below w.heap.size w w' := by
  obtain ⟨k, st, d⟩ := x
  obtain ⟨d', hd⟩ : ∃ d', d.extract 0 (min d.size 513) = d' := ⟨_, rfl⟩
  have h2 : d'.size ≤ 513 := by rw [← hd, extract_size]; omega
  obtain ⟨c, hc⟩ : ∃ c, cutS s = c := ⟨_, rfl⟩
  obtain ⟨u, hu⟩ : ∃ u, cutS t = u := ⟨_, rfl⟩
  have hc2 : c.size ≤ 2000 := hc ▸ cutS_size s
  have hu2 : u.size ≤ 2000 := hu ▸ cutS_size t
  have m1 : d'.size ≤ maxLen := by unfold maxLen; omega
  have m2 : c.size ≤ maxLen := by unfold maxLen; omega
  have m3 : u.size ≤ maxLen := by unfold maxLen; omega
  obtain ⟨g, n, q, hT, hT', hJ⟩ := take_zero u
  obtain ⟨k3, st3, d3⟩ := g
  cases hR : rightF ⟨k, st, d'⟩ with
  | true =>
    have hA := encA_ok hR
    have hz := encA_size hR
    dsimp only at hz
    obtain ⟨a, ha⟩ : ∃ a, (encA ⟨k, st, d'⟩).1 = a := ⟨_, rfl⟩
    have hTT : TakeA (c ++ (encA ⟨k, st, d'⟩).1 ++ u) c.size = (⟨k, st, d'⟩, (c.size : Int) + (encA ⟨k, st, d'⟩).1.size, 0) := take_back hR c u
    rw [ha] at hA hz hTT
    have hzz : (c ++ a ++ u).size ≤ maxLen := by rw [ByteArray.size_append, ByteArray.size_append]; unfold maxLen; omega
    have hcn : IntKind.i64.wrap ((c.size : Int) + a.size) = (c.size : Int) + a.size := IntWalk.i64_in _ (by omega)
    rcases hJ with ⟨rfl, h5, hn, hb, hr, hds⟩ | ⟨hq, rfl, hds⟩
    · exact walk_11 k st d d' hx hd m1 s t c u hs ht hc hu m2 m3 hR a hA hzz hTT hcn k3 st3 d3 n _ hds hT (encA_ok hr) h5 hn (by omega) hb.symm w e he
    · exact walk_10 k st d d' hx hd m1 s t c u hs ht hc hu m2 m3 hR a hA hzz hTT hcn k3 st3 d3 q _ _ hds hT rfl (by simp [hq]) (by simp [hq]) w e he
  | false =>
    have hA := encA_bad hR
    obtain ⟨⟨k2, st2, d2⟩, n2, q2, hTT⟩ : ∃ f n q, TakeA (c ++ ⟨#[]⟩ ++ u) c.size = (f, n, q) := ⟨_, _, _, rfl⟩
    have hzz : (c ++ ⟨#[]⟩ ++ u).size ≤ maxLen := by rw [ByteArray.size_append, ByteArray.size_append]; show c.size + 0 + u.size ≤ maxLen; unfold maxLen; omega
    rcases hJ with ⟨rfl, h5, hn, hb, hr, hds⟩ | ⟨hq, rfl, hds⟩
    · exact walk_01 k st d d' hx hd m1 s t c u hs ht hc hu m2 m3 hR _ hA hzz k2 st2 d2 n2 q2 hTT k3 st3 d3 n _ hds hT (encA_ok hr) h5 hn (by omega) hb.symm w e he
    · exact walk_00 k st d d' hx hd m1 s t c u hs ht hc hu m2 m3 hR _ hA hzz k2 st2 d2 n2 q2 hTT k3 st3 d3 q _ _ hds hT rfl (by simp [hq]) (by simp [hq]) w e he


set_option maxRecDepth 100000 in
theorem lifted (os : Os) (started : os.Started) (H : Type) (enc : TypeId × Value → H) :
    ReturnsInHanded {} Tryd.checked os 5 .any (fun w args => (Rows.wireBackSpec.pre enc Tryd.prog Tryd.f5 [] false w args ∧ laidMetH Tryd.prog wlaid w) ∧ sizedMet enc Tryd.prog Tryd.f5 (OpenSpec.ofChange Rows.wireBackSpec) false w args)
      (Rows.wireBackSpec.post enc Tryd.prog Tryd.f5 false true false false) := by
  refine returnsInHanded_of_change_and (C := Tryd.checked) (X := fun w _ => laidMetH Tryd.prog wlaid w) (fun _ _ _ hh h => h.of_heap hh) own started (by kernel_rfl) Tryd.func5
    (ChangeSpec.witness_shaped (enc := enc) (C := Tryd.checked) (os := os) (X := fun w _ => laidMetH Tryd.prog wlaid w) false (World.doorLaid Tryd.prog 400 os) #[.agg #[.int .i64 0, .int .i64 0, .string ByteArray.empty], .string ByteArray.empty, .string ByteArray.empty] 8 rfl (World.shaped_of_RefB (by kernel_rfl) (by kernel_rfl)) (by kernel_rfl) (by kernel_rfl) (by kernel_rfl) (door_met os _)) ?_
  intro W base args ds gs before hval0 hW _ _ hL _
  have hval : ∀ (j : Nat) t v, Tryd.f5.params[j]? = some t → args[j]? = some v → Value.okWide Tryd.prog W .any base t v := hval0
  have hW' := hW
  obtain ⟨p, q, hA0, hV, rfl, hfz, hnd⟩ := hW
  have hA : DataW.TrodAll enc Tryd.prog W 0 (fun _ => true) true Tryd.f5.params.toList args.toList ds p := hA0
  rw [Tryd.params5] at hA hval
  obtain ⟨v0, vs0, d0, ds0, p0, q0, hargs, rfl, rfl, h0, r0⟩ := trodAll_cons hA
  obtain ⟨v1, vs1, d1, ds1, p1, q1, rfl, rfl, rfl, h1, r1⟩ := trodAll_cons r0
  obtain ⟨v2, vs2, d2, ds2, p2, q2, rfl, rfl, rfl, h2, r2⟩ := trodAll_cons r1
  obtain ⟨rfl, rfl, rfl⟩ := trodAll_nil r2
  obtain rfl : args = #[v0, v1, v2] := by cases args; simp_all
  obtain ⟨rfl, rfl⟩ := trodVars_none hV
  obtain ⟨x0, rfl, w0⟩ := open_frame (hval 0 23 v0 rfl rfl) h0
  obtain ⟨a1, rfl, rfl, rfl, w1⟩ := open_string Tryd.underlying9 (hval 1 9 v1 rfl rfl) h1
  obtain ⟨a2, rfl, rfl, rfl, w2⟩ := open_string Tryd.underlying9 (hval 2 9 v2 rfl rfl) h2
  obtain ⟨e, hE⟩ := env_of_laid hL
  refine (walk x0 a1 a2 w0 w1 w2 W e hE).mono fun e W' ⟨he, hb⟩ => ?_
  subst he
  exact ⟨_, rfl, law_post (by kernel_rfl) (by decide +kernel) rfl rfl Tryd.underlying4 hW' hb ⟨rfl, rfl, rfl⟩⟩

theorem over : Rows.wireBackRow.holds Tryd.pinned (OpenSpec.ofChange Rows.wireBackSpec) :=
  OpenClaim.holds_of_wide 5 Tryd.f5 rfl rfl rfl rfl rfl rfl rfl ⟨rfl, rfl, rfl, rfl, rfl⟩ rfl rfl rfl rfl rfl (by kernel_rfl) Tryd.func5 (by kernel_rfl)
    (of_decide_eq_true (by kernel_rfl)) (by unfold Func.isWrapper; first | (rw [if_pos (by decide +kernel)]; kernel_rfl) | (rw [if_neg (by decide +kernel)]; exact ⟨rfl, rfl⟩))
    (fun os started H enc _ => lifted os started H enc)

theorem proved : Rows.WireBackCardSaid :=
  Claim7.holds_tied_plain_at .later [] [.sentinel, .sentinel, .sentinel, .sentinel, .sentinel] true (true, "998b37b86f346886364dd286543734421a9732a2b7459e040ada6a4648f163c4") true
    over (fun _ h => by cases h) (by kernel_rfl) (fun _ h => by cases h) wireBack_row_tie rfl ⟨rfl, rfl⟩ (by kernel_rfl) rfl
    (fun f fn hf hfn => by
      obtain rfl : f = 5 := Option.some.inj ((show Tryd.prog.funcNamed "wicketgate/wicketgatelaw03.WireBack" = some 5 by kernel_rfl).symm.trans hf) |>.symm
      obtain rfl : fn = Tryd.f5 := (Option.some.inj (Tryd.func5.symm.trans hfn)).symm
      exact ⟨by kernel_rfl, fun j t ht => by
        rw [Tryd.params5] at ht
        have hm : t ∈ [23, 9, 9] := by simpa using Array.mem_of_getElem? ht
        have hall : ([23, 9, 9].all fun u => !Tryd.prog.wantsStandIn u) = true := by kernel_rfl
        exact (show Tryd.prog.wantsStandIn t = false by simpa using List.all_eq_true.1 hall t hm)⟩)
    (by kernel_rfl)

end wireBack
end Go.Proofs.YtfedhhndkeakhaaDoor
