/- WireNumbers: two bytes tell the number that they are of: for every number and text. No condition beyond the card's. -/
import Derived.Test.YtfedhhndkeakhaaDoorWireLaw
namespace Go.Proofs.YtfedhhndkeakhaaDoor
open Go.RowKit

theorem num2_two (n : Int) (h0 : 0 ≤ n) (h1 : n ≤ 65535) : num2 (two n) = n := by
  show ((UInt8.ofNat (n / 256).toNat).toNat : Int) * 256 + (UInt8.ofNat (n % 256).toNat).toNat = n
  simp; omega
theorem two_num2 (s : ByteArray) (h : s.size = 2) : two (num2 s) = s := by
  obtain ⟨a, b, rfl⟩ := size2 s h
  have ha := a.toNat_lt
  have hb := b.toNat_lt
  show (⟨#[UInt8.ofNat (((a.toNat : Int) * 256 + b.toNat) / 256).toNat, UInt8.ofNat (((a.toNat : Int) * 256 + b.toNat) % 256).toNat]⟩ : ByteArray) = _
  have e1 : (((a.toNat : Int) * 256 + b.toNat) / 256).toNat = a.toNat := by omega
  have e2 : (((a.toNat : Int) * 256 + b.toNat) % 256).toNat = b.toNat := by omega
  rw [e1, e2]
  simp
theorem number_eq (s : ByteArray) (hs : s.size ≤ maxLen) (m : Int) (hm : num2 s = m) (w : World) :
    Calls Tryd.prog 21 #[.string s] w fun r w' => r = .returned (.int .i64 m) ∧ Keeps [] w w' := by
  subst hm
  exact (number_any s hs w).mono fun r w' ⟨h1, n, h2⟩ => ⟨h1, h2 ▸ (Keeps.refl [] w).drewN n⟩

namespace wireNumbers
open Go.ChangeShapes Go.WideShapes Go.ChangeAt
open Go.ChangeMaps (open_string)
attribute [local go_sem ↓] Go.wp_at_zero Go.wp_at_succ

set_option maxRecDepth 100000 in
set_option maxHeartbeats 2000000 in
theorem walk_good_two (n : Int) (s : ByteArray) (hs : s.size ≤ maxLen) (w : World) (e : Nat → Addr) (he : Env w e) (c : ByteArray) (hc : cutS s = c) (hcs : c.size ≤ 2000) (h0 : 0 ≤ n) (h1 : n ≤ 65535) (hz : c.size = 2) :
    Calls Tryd.prog 8 #[.int .i64 n, .string s] w fun e w' => e = .returned (.bool true) ∧ Below w.heap.size w w' := by
  have HE := Lib.hid he
  have HS := Lib.hid hs
  have HK := Lib.hid (Keeps.refl [] w)
  have HC := Lib.hid hc
  have HCS : Hid (c.size ≤ maxLen) := Lib.hid (by unfold maxLen; omega)
  have HA : Hid (bytesA n = (two n, 0)) := Lib.hid (bytesA_ok (by omega))
  have HN2 : Hid (num2 (two n) = n) := Lib.hid (num2_two n h0 h1)
  have hts : (two n).size = 2 := rfl
  have hz1 : ((c.size : Int) == 2) = true := by simp [hz]
  have hz2 : ((c.size : Int) != 2) = false := by simp [hz]
  obtain ⟨m, hm⟩ : ∃ m, num2 c = m := ⟨_, rfl⟩
  have HM := Lib.hid hm
  have HU : Hid (bytesA m = (c, 0)) := Lib.hid (by have := num2_bd c; rw [bytesA_ok (by omega), ← hm, two_num2 c hz])
  clear hm hz
  clear hc hcs h0 h1
  clear he hs
  go_enter Tryd.func8, Tryd.ntmps8
  go_wp2_with (fail)
  refine (wshown_any _ e HE.out).mono ?_
  rintro r w1 ⟨rfl, hk⟩
  have HE := Lib.hid (HE.out.keep hk)
  have HK := Lib.hid (HK.out.trans hk)
  clear hk
  go_wp2_with (fail)
  refine (cut_any s HS.out _).mono ?_
  rintro r w1 ⟨rfl, rfl⟩
  rw [HC.out]
  go_wp2_with (fail)
  refine (bytes_any n (two n) 0 HA.out _ e HE.out).mono ?_
  rintro r w1 ⟨rfl, hk⟩
  have HE := Lib.hid (HE.out.keep hk)
  have HK := Lib.hid (HK.out.trans hk)
  clear hk
  go_wp2_with (fail)
  refine (number_eq c HCS.out m HM.out _).mono ?_
  rintro r w1 ⟨rfl, hk⟩
  have HE := Lib.hid (HE.out.keep hk)
  have HK := Lib.hid (HK.out.trans hk)
  clear hk
  go_wp2_with (fail)
  refine (bytes_any m c 0 HU.out _ e HE.out).mono ?_
  rintro r w1 ⟨rfl, hk⟩
  have HE := Lib.hid (HE.out.keep hk)
  have HK := Lib.hid (HK.out.trans hk)
  clear hk
  go_wp2_with (fail)
  refine (number_eq (two n) (by rw [hts]; decide) n HN2.out _).mono ?_
  rintro r w1 ⟨rfl, hk⟩
  have HE := Lib.hid (HE.out.keep hk)
  have HK := Lib.hid (HK.out.trans hk)
  clear hk
  go_wp2_with (fail)
  go_ret
  exact ⟨rfl, HK.out.below (Nat.le_refl _) (by simp)⟩

set_option maxRecDepth 100000 in
set_option maxHeartbeats 2000000 in
theorem walk_good_not (n : Int) (s : ByteArray) (hs : s.size ≤ maxLen) (w : World) (e : Nat → Addr) (he : Env w e) (c : ByteArray) (hc : cutS s = c) (hcs : c.size ≤ 2000) (h0 : 0 ≤ n) (h1 : n ≤ 65535) (hz : c.size ≠ 2) :
    Calls Tryd.prog 8 #[.int .i64 n, .string s] w fun e w' => e = .returned (.bool true) ∧ Below w.heap.size w w' := by
  have HE := Lib.hid he
  have HS := Lib.hid hs
  have HK := Lib.hid (Keeps.refl [] w)
  have HC := Lib.hid hc
  have HCS : Hid (c.size ≤ maxLen) := Lib.hid (by unfold maxLen; omega)
  have HA : Hid (bytesA n = (two n, 0)) := Lib.hid (bytesA_ok (by omega))
  have HN2 : Hid (num2 (two n) = n) := Lib.hid (num2_two n h0 h1)
  have hts : (two n).size = 2 := rfl
  have hz1 : ((c.size : Int) == 2) = false := by simp; omega
  have hz2 : ((c.size : Int) != 2) = true := by simp; omega
  obtain ⟨m, hm0⟩ : ∃ m : Int, m = 0 := ⟨_, rfl⟩
  have HM : Hid (num2 c = m) := Lib.hid (by rw [hm0]; exact num2_not c hz)
  have HU : Hid (bytesA m = (two 0, 0)) := Lib.hid (by rw [hm0]; exact bytesA_ok (by omega))
  have hmz : (m == 0) = true := by rw [hm0]; rfl
  clear hz hm0
  clear hc hcs h0 h1
  clear he hs
  go_enter Tryd.func8, Tryd.ntmps8
  go_wp2_with (fail)
  refine (wshown_any _ e HE.out).mono ?_
  rintro r w1 ⟨rfl, hk⟩
  have HE := Lib.hid (HE.out.keep hk)
  have HK := Lib.hid (HK.out.trans hk)
  clear hk
  go_wp2_with (fail)
  refine (cut_any s HS.out _).mono ?_
  rintro r w1 ⟨rfl, rfl⟩
  rw [HC.out]
  go_wp2_with (fail)
  refine (bytes_any n (two n) 0 HA.out _ e HE.out).mono ?_
  rintro r w1 ⟨rfl, hk⟩
  have HE := Lib.hid (HE.out.keep hk)
  have HK := Lib.hid (HK.out.trans hk)
  clear hk
  go_wp2_with (fail)
  refine (number_eq c HCS.out m HM.out _).mono ?_
  rintro r w1 ⟨rfl, hk⟩
  have HE := Lib.hid (HE.out.keep hk)
  have HK := Lib.hid (HK.out.trans hk)
  clear hk
  go_wp2_with (fail)
  refine (bytes_any m (two 0) 0 HU.out _ e HE.out).mono ?_
  rintro r w1 ⟨rfl, hk⟩
  have HE := Lib.hid (HE.out.keep hk)
  have HK := Lib.hid (HK.out.trans hk)
  clear hk
  go_wp2_with (fail)
  refine (number_eq (two n) (by rw [hts]; decide) n HN2.out _).mono ?_
  rintro r w1 ⟨rfl, hk⟩
  have HE := Lib.hid (HE.out.keep hk)
  have HK := Lib.hid (HK.out.trans hk)
  clear hk
  go_wp2_with (fail)
  go_ret
  exact ⟨rfl, HK.out.below (Nat.le_refl _) (by simp)⟩

set_option maxRecDepth 100000 in
set_option maxHeartbeats 2000000 in
theorem walk_bad_two (n : Int) (s : ByteArray) (hs : s.size ≤ maxLen) (w : World) (e : Nat → Addr) (he : Env w e) (c : ByteArray) (hc : cutS s = c) (hcs : c.size ≤ 2000) (h0 : n < 0 ∨ 65535 < n) (hz : c.size = 2) :
    Calls Tryd.prog 8 #[.int .i64 n, .string s] w fun e w' => e = .returned (.bool true) ∧ Below w.heap.size w w' := by
  have HE := Lib.hid he
  have HS := Lib.hid hs
  have HK := Lib.hid (Keeps.refl [] w)
  have HC := Lib.hid hc
  have HCS : Hid (c.size ≤ maxLen) := Lib.hid (by unfold maxLen; omega)
  have HA : Hid (bytesA n = (⟨#[]⟩, 2)) := Lib.hid (bytesA_bad h0)
  have hz1 : ((c.size : Int) == 2) = true := by simp [hz]
  have hz2 : ((c.size : Int) != 2) = false := by simp [hz]
  obtain ⟨m, hm⟩ : ∃ m, num2 c = m := ⟨_, rfl⟩
  have HM := Lib.hid hm
  have HU : Hid (bytesA m = (c, 0)) := Lib.hid (by have := num2_bd c; rw [bytesA_ok (by omega), ← hm, two_num2 c hz])
  clear hm hz
  clear hc hcs h0
  clear he hs
  go_enter Tryd.func8, Tryd.ntmps8
  go_wp2_with (fail)
  refine (wshown_any _ e HE.out).mono ?_
  rintro r w1 ⟨rfl, hk⟩
  have HE := Lib.hid (HE.out.keep hk)
  have HK := Lib.hid (HK.out.trans hk)
  clear hk
  go_wp2_with (fail)
  refine (cut_any s HS.out _).mono ?_
  rintro r w1 ⟨rfl, rfl⟩
  rw [HC.out]
  go_wp2_with (fail)
  refine (bytes_any n ⟨#[]⟩ 2 HA.out _ e HE.out).mono ?_
  rintro r w1 ⟨rfl, hk⟩
  have HE := Lib.hid (HE.out.keep hk)
  have HK := Lib.hid (HK.out.trans hk)
  clear hk
  go_wp2_with (fail)
  refine (number_eq c HCS.out m HM.out _).mono ?_
  rintro r w1 ⟨rfl, hk⟩
  have HE := Lib.hid (HE.out.keep hk)
  have HK := Lib.hid (HK.out.trans hk)
  clear hk
  go_wp2_with (fail)
  refine (bytes_any m c 0 HU.out _ e HE.out).mono ?_
  rintro r w1 ⟨rfl, hk⟩
  have HE := Lib.hid (HE.out.keep hk)
  have HK := Lib.hid (HK.out.trans hk)
  clear hk
  go_wp2_with (fail)
  go_ret
  exact ⟨rfl, HK.out.below (Nat.le_refl _) (by simp)⟩

set_option maxRecDepth 100000 in
set_option maxHeartbeats 2000000 in
theorem walk_bad_not (n : Int) (s : ByteArray) (hs : s.size ≤ maxLen) (w : World) (e : Nat → Addr) (he : Env w e) (c : ByteArray) (hc : cutS s = c) (hcs : c.size ≤ 2000) (h0 : n < 0 ∨ 65535 < n) (hz : c.size ≠ 2) :
    Calls Tryd.prog 8 #[.int .i64 n, .string s] w fun e w' => e = .returned (.bool true) ∧ Below w.heap.size w w' := by
  have HE := Lib.hid he
  have HS := Lib.hid hs
  have HK := Lib.hid (Keeps.refl [] w)
  have HC := Lib.hid hc
  have HCS : Hid (c.size ≤ maxLen) := Lib.hid (by unfold maxLen; omega)
  have HA : Hid (bytesA n = (⟨#[]⟩, 2)) := Lib.hid (bytesA_bad h0)
  have hz1 : ((c.size : Int) == 2) = false := by simp; omega
  have hz2 : ((c.size : Int) != 2) = true := by simp; omega
  obtain ⟨m, hm0⟩ : ∃ m : Int, m = 0 := ⟨_, rfl⟩
  have HM : Hid (num2 c = m) := Lib.hid (by rw [hm0]; exact num2_not c hz)
  have HU : Hid (bytesA m = (two 0, 0)) := Lib.hid (by rw [hm0]; exact bytesA_ok (by omega))
  have hmz : (m == 0) = true := by rw [hm0]; rfl
  clear hz hm0
  clear hc hcs h0
  clear he hs
  go_enter Tryd.func8, Tryd.ntmps8
  go_wp2_with (fail)
  refine (wshown_any _ e HE.out).mono ?_
  rintro r w1 ⟨rfl, hk⟩
  have HE := Lib.hid (HE.out.keep hk)
  have HK := Lib.hid (HK.out.trans hk)
  clear hk
  go_wp2_with (fail)
  refine (cut_any s HS.out _).mono ?_
  rintro r w1 ⟨rfl, rfl⟩
  rw [HC.out]
  go_wp2_with (fail)
  refine (bytes_any n ⟨#[]⟩ 2 HA.out _ e HE.out).mono ?_
  rintro r w1 ⟨rfl, hk⟩
  have HE := Lib.hid (HE.out.keep hk)
  have HK := Lib.hid (HK.out.trans hk)
  clear hk
  go_wp2_with (fail)
  refine (number_eq c HCS.out m HM.out _).mono ?_
  rintro r w1 ⟨rfl, hk⟩
  have HE := Lib.hid (HE.out.keep hk)
  have HK := Lib.hid (HK.out.trans hk)
  clear hk
  go_wp2_with (fail)
  refine (bytes_any m (two 0) 0 HU.out _ e HE.out).mono ?_
  rintro r w1 ⟨rfl, hk⟩
  have HE := Lib.hid (HE.out.keep hk)
  have HK := Lib.hid (HK.out.trans hk)
  clear hk
  go_wp2_with (fail)
  go_ret
  exact ⟨rfl, HK.out.below (Nat.le_refl _) (by simp)⟩

theorem walk (n : Int) (s : ByteArray) (_ : (Lit.int IntKind.i64 n).wf = true) (hs : s.size ≤ maxLen) (w : World) (e : Nat → Addr) (he : Env w e) :
    Calls Tryd.prog 8 #[.int .i64 n, .string s] w fun e w' => e = .returned (.bool true) ∧ Below w.heap.size w w' := by
  by_cases h : n < 0 ∨ 65535 < n
  · by_cases hz : (cutS s).size = 2
    · exact walk_bad_two n s hs w e he _ rfl (cutS_size s) h hz
    · exact walk_bad_not n s hs w e he _ rfl (cutS_size s) h hz
  · by_cases hz : (cutS s).size = 2
    · exact walk_good_two n s hs w e he _ rfl (cutS_size s) (by omega) (by omega) hz
    · exact walk_good_not n s hs w e he _ rfl (cutS_size s) (by omega) (by omega) hz

set_option maxRecDepth 100000 in
theorem lifted (os : Os) (started : os.Started) (H : Type) (enc : TypeId × Value → H) :
    ReturnsInHanded {} Tryd.checked os 8 .any (fun w args => (Rows.wireNumbersSpec.pre enc Tryd.prog Tryd.f8 [] false w args ∧ laidMetH Tryd.prog wlaid w) ∧ sizedMet enc Tryd.prog Tryd.f8 (OpenSpec.ofChange Rows.wireNumbersSpec) false w args)
      (Rows.wireNumbersSpec.post enc Tryd.prog Tryd.f8 false true false false) := by
  refine returnsInHanded_of_change_and (C := Tryd.checked) (X := fun w _ => laidMetH Tryd.prog wlaid w) (fun _ _ _ hh h => h.of_heap hh) own started (by kernel_rfl) Tryd.func8
    (ChangeSpec.witness_shaped (enc := enc) (C := Tryd.checked) (os := os) (X := fun w _ => laidMetH Tryd.prog wlaid w) false (World.doorLaid Tryd.prog 400 os) #[.int .i64 0, .string ByteArray.empty] 8 rfl (World.shaped_of_RefB (by kernel_rfl) (by kernel_rfl)) (by kernel_rfl) (by kernel_rfl) (by kernel_rfl) (door_met os _)) ?_
  intro W base args ds gs before hval0 hW _ _ hL _
  have hval : ∀ (j : Nat) t v, Tryd.f8.params[j]? = some t → args[j]? = some v → Value.okWide Tryd.prog W .any base t v := hval0
  have hW' := hW
  obtain ⟨p, q, hA0, hV, rfl, hfz, hnd⟩ := hW
  have hA : DataW.TrodAll enc Tryd.prog W 0 (fun _ => true) true Tryd.f8.params.toList args.toList ds p := hA0
  rw [Tryd.params8] at hA hval
  obtain ⟨v0, vs0, d0, ds0, p0, q0, hargs, rfl, rfl, h0, r0⟩ := trodAll_cons hA
  obtain ⟨v1, vs1, d1, ds1, p1, q1, rfl, rfl, rfl, h1, r1⟩ := trodAll_cons r0
  obtain ⟨rfl, rfl, rfl⟩ := trodAll_nil r1
  obtain rfl : args = #[v0, v1] := by cases args; simp_all
  obtain ⟨rfl, rfl⟩ := trodVars_none hV
  obtain ⟨a0, rfl, rfl, rfl, w0⟩ := open_int Tryd.underlying3 (hval 0 3 v0 rfl rfl) h0
  obtain ⟨a1, rfl, rfl, rfl, w1⟩ := open_string Tryd.underlying9 (hval 1 9 v1 rfl rfl) h1
  obtain ⟨e, hE⟩ := env_of_laid hL
  refine (walk a0 a1 w0 w1 W e hE).mono fun e W' ⟨he, hb⟩ => ?_
  subst he
  exact ⟨_, rfl, law_post (by kernel_rfl) (by decide +kernel) rfl rfl Tryd.underlying4 hW' hb ⟨rfl, rfl, rfl⟩⟩

theorem over : Rows.wireNumbersRow.holds Tryd.pinned (OpenSpec.ofChange Rows.wireNumbersSpec) :=
  OpenClaim.holds_of_wide 8 Tryd.f8 rfl rfl rfl rfl rfl rfl rfl ⟨rfl, rfl, rfl, rfl, rfl⟩ rfl rfl rfl rfl rfl (by kernel_rfl) Tryd.func8 (by kernel_rfl)
    (of_decide_eq_true (by kernel_rfl)) (by unfold Func.isWrapper; first | (rw [if_pos (by decide +kernel)]; kernel_rfl) | (rw [if_neg (by decide +kernel)]; exact ⟨rfl, rfl⟩))
    (fun os started H enc _ => lifted os started H enc)

theorem proved : Rows.WireNumbersCardSaid :=
  Claim7.holds_tied_plain_at .later [] [.sentinel, .sentinel, .sentinel, .sentinel, .sentinel] true (true, "998b37b86f346886364dd286543734421a9732a2b7459e040ada6a4648f163c4") true
    over (fun _ h => by cases h) (by kernel_rfl) (fun _ h => by cases h) wireNumbers_row_tie rfl ⟨rfl, rfl⟩ (by kernel_rfl) rfl
    (fun f fn hf hfn => by
      obtain rfl : f = 8 := Option.some.inj ((show Tryd.prog.funcNamed "wicketgate/wicketgatelaw03.WireNumbers" = some 8 by kernel_rfl).symm.trans hf) |>.symm
      obtain rfl : fn = Tryd.f8 := (Option.some.inj (Tryd.func8.symm.trans hfn)).symm
      exact ⟨by kernel_rfl, fun j t ht => by
        rw [Tryd.params8] at ht
        have hm : t ∈ [3, 9] := by simpa using Array.mem_of_getElem? ht
        have hall : ([3, 9].all fun u => !Tryd.prog.wantsStandIn u) = true := by kernel_rfl
        exact (show Tryd.prog.wantsStandIn t = false by simpa using List.all_eq_true.1 hall t hm)⟩)
    (by kernel_rfl)

end wireNumbers
end Go.Proofs.YtfedhhndkeakhaaDoor
