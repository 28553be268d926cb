/- WireCuts: of frames that are cut just those that are whole are told: for every list of frames and every place. No condition beyond the card's. -/
import Derived.Test.YtfedhhndkeakhaaDoorWireI
namespace Go.Proofs.YtfedhhndkeakhaaDoor
open Go.RowKit Go.Shelf

namespace wireCuts
open Go.ChangeShapes Go.WideShapes Go.ChangeAt
open Go.ChangeMaps (open_string)
attribute [local go_sem ↓] Go.wp_at_zero Go.wp_at_succ

theorem cutN_stop (c p : Nat) (x : Fr) (R : List Fr) (h : ¬ p + 5 + x.data.size ≤ c) : cutN c p (x :: R) = (p, 0) := by rw [cutN, if_neg h]
theorem cutN_go (c p : Nat) (x : Fr) (R : List Fr) (h : p + 5 + x.data.size ≤ c) : cutN c p (x :: R) = ((cutN c (p + 5 + x.data.size) R).1, (cutN c (p + 5 + x.data.size) R).2 + 1) := by rw [cutN, if_pos h]
variable {w0 : World}
set_option maxRecDepth 100000 in
set_option maxHeartbeats 4000000 in
theorem walk_not (a : Option Addr) (xs : List Fr) (cp : Nat) (hx : FrsArg w0 a xs) (L : List Fr) (hL : cutFrs xs = L) (s : ByteArray) (ok : Bool) (hs : layL ⟨#[]⟩ L = (s, ok)) (at_ : Int) (hok : ok = false) (w : World) (hw : w0 = w) (e : Nat → Addr) (he : Env w e) :
    Calls Tryd.prog 6 #[.slice a xs.length cp, .int .i64 at_] w fun e w' => e = .returned (.bool true) ∧ Below w.heap.size w w' := by
  subst hw
  have HL10 : Hid (L.length ≤ 10) := Lib.hid (by rw [← hL]; exact cutFrs_len xs)
  have HD : Hid (∀ f ∈ L, f.data.size ≤ 513) := Lib.hid (by rw [← hL]; exact cutFrs_size xs)
  have HX := Lib.hid hx
  have HL := Lib.hid hL
  have HS := Lib.hid hs
  have HE := Lib.hid he
  have HK := Lib.hid (Keeps.refl [] w0)
  clear hx hL hs he
  subst hok
  go_enter Tryd.func6, Tryd.ntmps6
  go_wp2_with (fail)
  refine (wshown_any _ e HE.out).mono ?_
  rintro r w1 ⟨rfl, hk⟩
  have HE := Lib.hid (HE.out.keep hk)
  have HK := Lib.hid (HK.out.trans hk)
  clear hk
  go_wp2_with (fail)
  refine (cutfrs_in _ a cp xs (HX.out.keeps HK.out)).mono ?_
  rintro r w1 ⟨a1, c1, rfl, hlc, hin, hk⟩
  rw [HL.out] at hlc hin ⊢
  have HI := Lib.hid hin
  have HE := Lib.hid (HE.out.keep hk)
  have HK := Lib.hid (HK.out.trans hk)
  clear hk hin
  go_wp2_with (fail)
  refine (lay_any a1 c1 L HI.out HL10.out (fun f hf => Nat.le_trans (HD.out f hf) (by unfold maxLen; omega)) s _ HS.out _ rfl e HE.out).mono ?_
  rintro r w1 ⟨rfl, hk⟩
  have HI := Lib.hid (HI.out.keeps hk)
  have HE := Lib.hid (HE.out.keep hk)
  have HK := Lib.hid (HK.out.trans hk)
  clear hk
  go_wp2_with (fail)
  go_ret
  exact ⟨rfl, HK.out.below (Nat.le_refl _) (by simp)⟩

set_option maxRecDepth 100000 in
set_option maxHeartbeats 4000000 in
theorem walk_out (a : Option Addr) (xs : List Fr) (cp : Nat) (hx : FrsArg w0 a xs) (L : List Fr) (hL : cutFrs xs = L) (s : ByteArray) (ok : Bool) (hs : layL ⟨#[]⟩ L = (s, ok)) (at_ : Int) (hok : ok = true) (hat : at_ < 0 ∨ (s.size : Int) < at_) (w : World) (hw : w0 = w) (e : Nat → Addr) (he : Env w e) :
    Calls Tryd.prog 6 #[.slice a xs.length cp, .int .i64 at_] w fun e w' => e = .returned (.bool true) ∧ Below w.heap.size w w' := by
  subst hw
  have HL10 : Hid (L.length ≤ 10) := Lib.hid (by rw [← hL]; exact cutFrs_len xs)
  have HD : Hid (∀ f ∈ L, f.data.size ≤ 513) := Lib.hid (by rw [← hL]; exact cutFrs_size xs)
  have HX := Lib.hid hx
  have HL := Lib.hid hL
  have HS := Lib.hid hs
  have HE := Lib.hid he
  have HK := Lib.hid (Keeps.refl [] w0)
  clear hx hL hs he
  subst hok
  rcases (show at_ < 0 ∨ (¬ at_ < 0 ∧ (s.size : Int) < at_) by omega) with h1 | ⟨h1, h2⟩
  all_goals
    clear hat
    go_enter Tryd.func6, Tryd.ntmps6
    go_wp2_with (fail)
    refine (wshown_any _ e HE.out).mono ?_
    rintro r w1 ⟨rfl, hk⟩
    have HE := Lib.hid (HE.out.keep hk)
    have HK := Lib.hid (HK.out.trans hk)
    clear hk
    go_wp2_with (fail)
    refine (cutfrs_in _ a cp xs (HX.out.keeps HK.out)).mono ?_
    rintro r w1 ⟨a1, c1, rfl, hlc, hin, hk⟩
    rw [HL.out] at hlc hin ⊢
    have HI := Lib.hid hin
    have HE := Lib.hid (HE.out.keep hk)
    have HK := Lib.hid (HK.out.trans hk)
    clear hk hin
    go_wp2_with (fail)
    refine (lay_any a1 c1 L HI.out HL10.out (fun f hf => Nat.le_trans (HD.out f hf) (by unfold maxLen; omega)) s _ HS.out _ rfl e HE.out).mono ?_
    rintro r w1 ⟨rfl, hk⟩
    have HI := Lib.hid (HI.out.keeps hk)
    have HE := Lib.hid (HE.out.keep hk)
    have HK := Lib.hid (HK.out.trans hk)
    clear hk
    go_wp2_with (fail)
    go_ret
    exact ⟨rfl, HK.out.below (Nat.le_refl _) (by simp)⟩

set_option maxRecDepth 100000 in
set_option maxHeartbeats 4000000 in
theorem walk_good (a : Option Addr) (xs : List Fr) (cp : Nat) (hx : FrsArg w0 a xs) (L : List Fr) (hL : cutFrs xs = L) (s : ByteArray) (ok : Bool) (hs : layL ⟨#[]⟩ L = (s, ok)) (hss : s.size ≤ 10000) (k : Nat) (hk : k ≤ s.size) (hok : ok = true) (x : ByteArray) (hxx : s.extract 0 k = x) (X : List Fr) (P : Nat) (hP : (cutN k 0 L).1 = P) (hM : (cutN k 0 L).2 = X.length) (hX : L.take X.length = X) (hA : allA x = (X, (P : Int), 0)) (hXN : X.length ≤ L.length) (w : World) (hw : w0 = w) (e : Nat → Addr) (he : Env w e) :
    Calls Tryd.prog 6 #[.slice a xs.length cp, .int .i64 k] w fun e w' => e = .returned (.bool true) ∧ Below w.heap.size w w' := by
  subst hw
  have HL10 : Hid (L.length ≤ 10) := Lib.hid (by rw [← hL]; exact cutFrs_len xs)
  have HD : Hid (∀ f ∈ L, f.data.size ≤ 513) := Lib.hid (by rw [← hL]; exact cutFrs_size xs)
  have HX := Lib.hid hx
  have HL := Lib.hid hL
  have HS := Lib.hid hs
  have HE := Lib.hid he
  have HK := Lib.hid (Keeps.refl [] w0)
  clear hx hL hs he
  subst hok
  have h1 : ¬ (k : Int) < 0 := by omega
  have h2 : ¬ (s.size : Int) < (k : Int) := by omega
  have h3 : (k : Int) ≤ (s.size : Int) := by omega
  have h4 : (0 : Int) ≤ (k : Int) := by omega
  have HXS : Hid (x.size ≤ 1000000) := Lib.hid (by rw [← hxx, extract_size]; omega)
  have HXX := Lib.hid hxx
  have HA := Lib.hid hA
  have HTK := Lib.hid hX
  have HN0 : Hid ((cutN k 0 L).1 = P ∧ (cutN k 0 L).2 + 0 = X.length) := Lib.hid ⟨hP, hM⟩
  have HXL : Hid (X.length ≤ 1000000) := Lib.hid (by have := HL10.out; omega)
  obtain ⟨N, hN⟩ : ∃ N, L.length = N := ⟨_, rfl⟩
  have HN := Lib.hid hN
  have hN10 : N ≤ 10 := by have := HL10.out; omega
  rw [hN] at hXN
  have hk10 : k ≤ 10000 := by omega
  clear hk hss hxx hA hX hP hM hN
  go_enter Tryd.func6, Tryd.ntmps6
  go_wp2_with (fail)
  refine (wshown_any _ e HE.out).mono ?_
  rintro r w1 ⟨rfl, hk⟩
  have HE := Lib.hid (HE.out.keep hk)
  have HK := Lib.hid (HK.out.trans hk)
  clear hk
  go_wp2_with (fail)
  refine (cutfrs_in _ a cp xs (HX.out.keeps HK.out)).mono ?_
  rintro r w1 ⟨a1, c1, rfl, hlc, hin, hk⟩
  rw [HL.out] at hlc hin ⊢
  have HI := Lib.hid hin
  have HE := Lib.hid (HE.out.keep hk)
  have HK := Lib.hid (HK.out.trans hk)
  clear hk hin
  go_wp2_with (fail)
  refine (lay_any a1 c1 L HI.out HL10.out (fun f hf => Nat.le_trans (HD.out f hf) (by unfold maxLen; omega)) s _ HS.out _ rfl e HE.out).mono ?_
  rintro r w1 ⟨rfl, hk⟩
  have HI := Lib.hid (HI.out.keeps hk)
  have HE := Lib.hid (HE.out.keep hk)
  have HK := Lib.hid (HK.out.trans hk)
  clear hk
  go_wp2_with (fail)
  rw [HN.out] at hlc ⊢
  have hk1 := HK.out
  go_wp2
  go_loopw [8, 9, 10] (fun n wh i wr => ∃ (j p : Nat), j ≤ N ∧ p ≤ k ∧ i = .int .i64 j ∧ n = .int .i64 p ∧ wh = .int .i64 j ∧ Hid ((cutN k p (L.drop j)).1 = P ∧ (cutN k p (L.drop j)).2 + j = X.length) ∧ Hid (Keeps [] w1 wr)) (fun _ _ i _ => N - (intOf i).toNat)
  case atStart => exact ⟨0, 0, Nat.zero_le _, Nat.zero_le _, rfl, rfl, rfl, HN0, Lib.hid (Keeps.refl [] w1)⟩
  case round =>
    obtain ⟨j, p, hj, hpk, rfl, rfl, rfl, HQ, HKR⟩ := hrel
    by_cases hlt : j < N
    · have hj1 : j < L.length := by rw [HN.out]; exact hlt
      obtain ⟨g, off, ha, hg, hat⟩ := HI.out (by rintro rfl; simp at hj1)
      subst ha
      obtain ⟨y, hy⟩ : ∃ y, L[j] = y := ⟨_, rfl⟩
      have q1 := hat j hj1
      rw [hy] at q1
      obtain ⟨p0, p1, p2⟩ := q1
      rw [← HKR.out.cell (by exact hg) (by simp)] at p2
      have i1 : (0 : Int) ≤ (j : Int) := by omega
      have i2 : (j : Int) < (N : Int) := by omega
      have hys : y.data.size ≤ 513 := HD.out y (by rw [← hy]; exact List.getElem_mem _)
      have hq2 := HQ.out
      rw [List.drop_eq_getElem_cons hj1, hy] at hq2
      have w5 : IntKind.i64.wrap ((p : Int) + 5) = p + 5 := IntWalk.i64_in _ (by omega)
      have w6 : IntKind.i64.wrap ((p : Int) + 5 + y.data.size) = p + 5 + y.data.size := IntWalk.i64_in _ (by omega)
      by_cases hle : p + 5 + y.data.size ≤ k
      · have hle2 : (p : Int) + 5 + y.data.size ≤ (k : Int) := by omega
        rw [cutN_go k p y _ hle] at hq2
        have HQ2 : Hid ((cutN k (p + 5 + y.data.size) (L.drop (j + 1))).1 = P ∧ (cutN k (p + 5 + y.data.size) (L.drop (j + 1))).2 + (j + 1) = X.length) := Lib.hid ⟨hq2.1, by have := hq2.2; omega⟩
        clear hat hy hj1 hq2 p0 p1
        go_wp2
        go_roundw
        case rel => exact ⟨j + 1, p + 5 + y.data.size, by omega, hle, by go_num, by go_num, by go_num, HQ2, HKR⟩
        case measure => simp [intOf]; omega
      · have hle2 : ¬ (p : Int) + 5 + y.data.size ≤ (k : Int) := by omega
        rw [cutN_stop k p y _ hle] at hq2
        have hpP : p = P := hq2.1
        subst hpP
        obtain rfl : j = X.length := by have := hq2.2; omega
        clear hq2
        clear hat hy hj1 p0 p1
        go_wp2_with (fail)
        rw [HXX.out]
        refine (all_any x HXS.out X p 0 HA.out _ e (HE.out.keep HKR.out)).mono ?_
        rintro r w2 ⟨v2, rfl, hrow, hbel⟩
        obtain ⟨p2', c2, rfl, _, hin2⟩ := frs_of_row hrow
        have hk := Keeps.of_below hbel []
        have HI2 := Lib.hid hin2
        have hti := ((HI.out.keeps HKR.out).keeps hk).take X.length
        rw [HTK.out] at hti
        have HT := Lib.hid hti
        have HK := Lib.hid ((HK.out.trans HKR.out).trans hk)
        have hsl : (X.length : Int) ≤ (c1 : Int) := by omega
        have hsl0 : (0 : Int) ≤ (X.length : Int) := by omega
        clear hk hrow hbel hin2 hti
        go_wp2_with (fail)
        refine (same_any _ _ c2 c1 X X true (by simp) _ HI2.out HT.out HXL.out HXL.out).mono ?_
        rintro r w3 ⟨rfl, hk⟩
        have HK := Lib.hid (HK.out.trans hk)
        clear hk
        go_wp2_with (fail)
        go_ret
        exact ⟨rfl, HK.out.below (Nat.le_refl _) (by simp)⟩
    · have hq2 := HQ.out
      rw [List.drop_of_length_le (by rw [HN.out]; omega)] at hq2
      have hpP : p = P := by simpa [cutN] using hq2.1
      subst hpP
      obtain rfl : j = X.length := by simpa [cutN] using hq2.2
      have i2 : ¬ ((X.length : Int) < (N : Int)) := by omega
      clear hq2
      go_wp2_with (fail)
      rw [HXX.out]
      refine (all_any x HXS.out X p 0 HA.out _ e (HE.out.keep HKR.out)).mono ?_
      rintro r w2 ⟨v2, rfl, hrow, hbel⟩
      obtain ⟨p2', c2, rfl, _, hin2⟩ := frs_of_row hrow
      have hk := Keeps.of_below hbel []
      have HI2 := Lib.hid hin2
      have hti := ((HI.out.keeps HKR.out).keeps hk).take X.length
      rw [HTK.out] at hti
      have HT := Lib.hid hti
      have HK := Lib.hid ((HK.out.trans HKR.out).trans hk)
      have hsl : (X.length : Int) ≤ (c1 : Int) := by omega
      have hsl0 : (0 : Int) ≤ (X.length : Int) := by omega
      clear hk hrow hbel hin2 hti
      go_wp2_with (fail)
      refine (same_any _ _ c2 c1 X X true (by simp) _ HI2.out HT.out HXL.out HXL.out).mono ?_
      rintro r w3 ⟨rfl, hk⟩
      have HK := Lib.hid (HK.out.trans hk)
      clear hk
      go_wp2_with (fail)
      go_ret
      exact ⟨rfl, HK.out.below (Nat.le_refl _) (by simp)⟩

theorem lay_size : ∀ (L : List Fr) (q s : ByteArray), layL q L = (s, true) → s.size ≤ q.size + 600 * L.length
  | [], q, s, h => by
    obtain rfl : q = s := congrArg (·.1) h
    omega
  | f :: L, q, s, h => by
    unfold layL at h
    split at h
    · rename_i hf
      have h1 := lay_size L _ s h
      have h2 := encA_size hf
      have h3 := (right_bd hf).2.2.2.2
      rw [ByteArray.size_append, h2] at h1
      rw [List.length_cons]
      omega
    · cases congrArg (·.2) h
theorem walk (a : Option Addr) (xs : List Fr) (c : Nat) (at_ : Int) (hx : FrsArg w0 a xs) (_ : (Lit.int IntKind.i64 at_).wf = true) (e : Nat → Addr) (he : Env w0 e) :
    Calls Tryd.prog 6 #[.slice a xs.length c, .int .i64 at_] w0 fun e w' => e = .returned (.bool true) ∧ Below w0.heap.size w0 w' := by
  rcases hs : layL ⟨#[]⟩ (cutFrs xs) with ⟨s, ok⟩
  cases ok with
  | false => exact walk_not a xs c hx _ rfl s false hs at_ rfl w0 rfl e he
  | true =>
    by_cases hat : at_ < 0 ∨ (s.size : Int) < at_
    · exact walk_out a xs c hx _ rfl s true hs at_ rfl hat w0 rfl e he
    obtain ⟨k, rfl⟩ : ∃ k : Nat, at_ = k := ⟨at_.toNat, by omega⟩
    have hk : k ≤ s.size := by omega
    have hsz := lay_size _ _ _ hs
    have h10 := cutFrs_len xs
    have hle := cutN_le k (cutFrs xs) 0
    have hxl : ((cutFrs xs).take (cutN k 0 (cutFrs xs)).2).length = (cutN k 0 (cutFrs xs)).2 := by rw [List.length_take]; omega
    have hA := cuts hs hk
    have e0 : (ByteArray.mk #[]).size = 0 := rfl
    exact walk_good a xs c hx _ rfl s true hs (by omega) k hk rfl _ rfl _ _ rfl hxl.symm (by rw [hxl]) hA (by rw [hxl]; exact hle) w0 rfl e he


set_option maxRecDepth 100000 in
theorem lifted (os : Os) (started : os.Started) (H : Type) (enc : TypeId × Value → H) :
    ReturnsInHanded {} Tryd.checked os 6 .any (fun w args => (Rows.wireCutsSpec.pre enc Tryd.prog Tryd.f6 [] false w args ∧ laidMetH Tryd.prog wlaid w) ∧ sizedMet enc Tryd.prog Tryd.f6 (OpenSpec.ofChange Rows.wireCutsSpec) false w args)
      (Rows.wireCutsSpec.post enc Tryd.prog Tryd.f6 false true false false) := by
  refine returnsInHanded_of_change_and (C := Tryd.checked) (X := fun w _ => laidMetH Tryd.prog wlaid w) (fun _ _ _ hh h => h.of_heap hh) own started (by kernel_rfl) Tryd.func6
    (ChangeSpec.witness_shaped (enc := enc) (C := Tryd.checked) (os := os) (X := fun w _ => laidMetH Tryd.prog wlaid w) false (World.doorLaid Tryd.prog 400 os) #[.slice none 0 0, .int .i64 0] 8 rfl (World.shaped_of_RefB (by kernel_rfl) (by kernel_rfl)) (by kernel_rfl) (by kernel_rfl) (by kernel_rfl) (door_met os _)) ?_
  intro W base args ds gs before hval0 hW _ _ hL _
  have hval : ∀ (j : Nat) t v, Tryd.f6.params[j]? = some t → args[j]? = some v → Value.okWide Tryd.prog W .any base t v := hval0
  have hW' := hW
  obtain ⟨p, q, hA0, hV, rfl, hfz, hnd⟩ := hW
  have hA : DataW.TrodAll enc Tryd.prog W 0 (fun _ => true) true Tryd.f6.params.toList args.toList ds p := hA0
  rw [Tryd.params6] at hA hval
  obtain ⟨v0, vs0, d0, ds0, p0, q0, hargs, rfl, rfl, h0, r0⟩ := trodAll_cons hA
  obtain ⟨v1, vs1, d1, ds1, p1, q1, rfl, rfl, rfl, h1, r1⟩ := trodAll_cons r0
  obtain ⟨rfl, rfl, rfl⟩ := trodAll_nil r1
  obtain rfl : args = #[v0, v1] := by cases args; simp_all
  obtain ⟨rfl, rfl⟩ := trodVars_none hV
  obtain ⟨a0, xs0, c0, rfl, w0⟩ := open_frames (hval 0 25 v0 rfl rfl) h0
  obtain ⟨a1, rfl, rfl, rfl, w1⟩ := open_int Tryd.underlying3 (hval 1 3 v1 rfl rfl) h1
  obtain ⟨e, hE⟩ := env_of_laid hL
  refine (walk a0 xs0 c0 a1 w0 w1 e hE).mono fun e W' ⟨he, hb⟩ => ?_
  subst he
  exact ⟨_, rfl, law_post (by kernel_rfl) (by decide +kernel) rfl rfl Tryd.underlying4 hW' hb ⟨rfl, rfl, rfl⟩⟩

theorem over : Rows.wireCutsRow.holds Tryd.pinned (OpenSpec.ofChange Rows.wireCutsSpec) :=
  OpenClaim.holds_of_wide 6 Tryd.f6 rfl rfl rfl rfl rfl rfl rfl ⟨rfl, rfl, rfl, rfl, rfl⟩ rfl rfl rfl rfl rfl (by kernel_rfl) Tryd.func6 (by kernel_rfl)
    (of_decide_eq_true (by kernel_rfl)) (by unfold Func.isWrapper; first | (rw [if_pos (by decide +kernel)]; kernel_rfl) | (rw [if_neg (by decide +kernel)]; exact ⟨rfl, rfl⟩))
    (fun os started H enc _ => lifted os started H enc)

theorem proved : Rows.WireCutsCardSaid :=
  Claim7.holds_tied_plain_at .later [] [.sentinel, .sentinel, .sentinel, .sentinel, .sentinel] true (true, "998b37b86f346886364dd286543734421a9732a2b7459e040ada6a4648f163c4") true
    over (fun _ h => by cases h) (by kernel_rfl) (fun _ h => by cases h) wireCuts_row_tie rfl ⟨rfl, rfl⟩ (by kernel_rfl) rfl
    (fun f fn hf hfn => by
      obtain rfl : f = 6 := Option.some.inj ((show Tryd.prog.funcNamed "wicketgate/wicketgatelaw03.WireCuts" = some 6 by kernel_rfl).symm.trans hf) |>.symm
      obtain rfl : fn = Tryd.f6 := (Option.some.inj (Tryd.func6.symm.trans hfn)).symm
      exact ⟨by kernel_rfl, fun j t ht => by
        rw [Tryd.params6] at ht
        have hm : t ∈ [25, 3] := by simpa using Array.mem_of_getElem? ht
        have hall : ([25, 3].all fun u => !Tryd.prog.wantsStandIn u) = true := by kernel_rfl
        exact (show Tryd.prog.wantsStandIn t = false by simpa using List.all_eq_true.1 hall t hm)⟩)
    (by kernel_rfl)

end wireCuts
end Go.Proofs.YtfedhhndkeakhaaDoor
