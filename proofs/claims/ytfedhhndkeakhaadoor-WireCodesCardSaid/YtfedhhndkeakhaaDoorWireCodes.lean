/- WireCodes: right, bytes, take, numbers as the reference has them: for every frame, text, place and number. No condition beyond the card's. -/
import Derived.Test.YtfedhhndkeakhaaDoorWireF
namespace Go.Proofs.YtfedhhndkeakhaaDoor
open Go.RowKit Go.Shelf

namespace wireCodes
open Go.ChangeShapes Go.WideShapes Go.ChangeAt
open Go.ChangeMaps (open_string)
attribute [local go_sem ↓] Go.wp_at_zero Go.wp_at_succ

set_option maxRecDepth 100000 in
set_option maxHeartbeats 4000000 in
theorem walk_codes (k st : Int) (d d' : ByteArray) (hx : d.size ≤ maxLen) (hcut : d.extract 0 (min d.size 513) = d') (hdd : d'.size ≤ maxLen)
    (s c : ByteArray) (hs : s.size ≤ maxLen) (hc : cutS s = c) (hcs : c.size ≤ maxLen) (at_ n : Int) (R : Bool) (hR : rightF ⟨k, st, d'⟩ = R) (a : ByteArray) (q : Int) (hA : encA ⟨k, st, d'⟩ = (a, q)) (k2 st2 : Int) (d2 : ByteArray) (n2 q2 : Int) (hT : TakeA c at_ = (⟨k2, st2, d2⟩, n2, q2)) (b : ByteArray) (q3 : Int) (hBy : bytesA n = (b, q3)) (m : Int) (hN : num2 c = m)
    (w : World) (e : Nat → Addr) (he : Env w e) :
    Calls Tryd.prog 3 #[.agg #[.int .i64 k, .int .i64 st, .string d], .string s, .int .i64 at_, .int .i64 n] w fun e w' => e = .returned (.bool true) ∧ Below w.heap.size w w' := by
  have HS := Lib.hid hs
  have HC := Lib.hid hc
  have HCS := Lib.hid hcs
  have HR := Lib.hid hR
  have HA := Lib.hid hA
  have HT := Lib.hid hT
  have HBY := Lib.hid hBy
  have HN := Lib.hid hN
  clear hs hc hcs hR hA hT hBy hN
  have HX := Lib.hid hx
  have HCUT := Lib.hid hcut
  have HDD := Lib.hid hdd
  have HE0 := Lib.hid he
  have HB := Lib.hid (Blk.new w 23 (Fr.mk k st d).cells)
  have HK := Lib.hid ((Keeps.refl [] w).alloc (.cells (Fr.mk k st d).cells 23))
  clear hx hcut hdd he
  go_enter Tryd.func3, Tryd.ntmps3
  go_wp2_with (fail)
  refine (wshown_any _ e (HE0.out.keep HK.out)).mono ?_
  rintro r w1 ⟨rfl, hk⟩
  have HB := Lib.hid (HB.out.keeps hk (by simp))
  have HK := Lib.hid (HK.out.trans hk)
  clear hk
  obtain ⟨c0, c1, c2⟩ := fr_res (f := ⟨k, st, d⟩) HB.out
  go_wp2_with (fail)
  refine (cut1_any k st d d' HX.out HCUT.out _).mono ?_
  rintro r w1 ⟨g, off, cp, rfl, hc1, x0, x1, x2, hk⟩
  clear c0 c1 c2
  have HB := Lib.hid (HB.out.keeps hk (by simp))
  have HK := Lib.hid (HK.out.trans hk)
  clear hk
  obtain ⟨c0, c1, c2⟩ := fr_res (f := ⟨k, st, d⟩) HB.out
  have hfz := fun i => HB.out.frozen i
  dsimp only at c0 c1 c2
  go_wp2_with (fail)
  have HB := Lib.hid (blk_set3 HB.out (.int .i64 k) (.int .i64 st) (.string d'))
  have HK := Lib.hid (keeps_set3 HK.out (Nat.le_refl _) (.int .i64 k) (.int .i64 st) (.string d'))
  clear c0 c1 c2 x0 x1 x2 hfz
  refine (cut_any s HS.out _).mono ?_
  rintro r w1 ⟨rfl, rfl⟩
  rw [HC.out]
  obtain ⟨c0, c1, c2⟩ := fr_res (f := ⟨k, st, d'⟩) HB.out
  dsimp only at c0 c1 c2
  go_wp2_with (fail)
  refine (encode_any ⟨k, st, d'⟩ HDD.out a q HA.out _ e (HE0.out.keep HK.out)).mono ?_
  rintro r w1 ⟨rfl, hk⟩
  have HB := Lib.hid (HB.out.keeps hk (by simp))
  have HK := Lib.hid (HK.out.trans hk)
  clear hk
  clear c0 c1 c2
  obtain ⟨c0, c1, c2⟩ := fr_res (f := ⟨k, st, d'⟩) HB.out
  dsimp only at c0 c1 c2
  go_wp2_with (fail)
  refine (rencode_any ⟨k, st, d'⟩ HDD.out a q HA.out _).mono ?_
  rintro r w1 ⟨rfl, hk⟩
  have HB := Lib.hid (HB.out.keeps hk (by simp))
  have HK := Lib.hid (HK.out.trans hk)
  clear hk
  clear c0 c1 c2
  go_wp2_with (fail)
  refine (Take_any c HCS.out at_ ⟨k2, st2, d2⟩ n2 q2 HT.out _ e (HE0.out.keep HK.out)).mono ?_
  rintro r wt ⟨rfl, hk⟩
  unfold Fr.v
  have HD := Lib.hid (Blk.new wt 23 (Fr.mk k2 st2 d2).cells)
  have hk := hk.alloc (.cells (Fr.mk k2 st2 d2).cells 23)
  have HB := Lib.hid (HB.out.keeps hk (by simp))
  have HK := Lib.hid (HK.out.trans hk)
  clear hk
  go_wp2_with (fail)
  refine (rTake_any c HCS.out at_ ⟨k2, st2, d2⟩ n2 q2 HT.out _).mono ?_
  rintro r wu ⟨rfl, hk⟩
  unfold Fr.v
  have HD := Lib.hid ((HD.out.keeps hk (by simp)).alloc (.cells (Fr.mk k2 st2 d2).cells 23))
  have HF := Lib.hid (Blk.new wu 23 (Fr.mk k2 st2 d2).cells)
  have hk := hk.alloc (.cells (Fr.mk k2 st2 d2).cells 23)
  have HB := Lib.hid (HB.out.keeps hk (by simp))
  have HK := Lib.hid (HK.out.trans hk)
  clear hk
  go_wp2_with (fail)
  refine (bytes_any n b q3 HBY.out _ e (HE0.out.keep HK.out)).mono ?_
  rintro r w1 ⟨rfl, hk⟩
  have HD := Lib.hid (HD.out.keeps hk (by simp))
  have HF := Lib.hid (HF.out.keeps hk (by simp))
  have HB := Lib.hid (HB.out.keeps hk (by simp))
  have HK := Lib.hid (HK.out.trans hk)
  clear hk
  go_wp2_with (fail)
  refine (rbytes_any n b q3 HBY.out _).mono ?_
  rintro r w1 ⟨rfl, hk⟩
  have HD := Lib.hid (HD.out.keeps hk (by simp))
  have HF := Lib.hid (HF.out.keeps hk (by simp))
  have HB := Lib.hid (HB.out.keeps hk (by simp))
  have HK := Lib.hid (HK.out.trans hk)
  clear hk
  obtain ⟨c0, c1, c2⟩ := fr_res (f := ⟨k, st, d'⟩) HB.out
  dsimp only at c0 c1 c2
  obtain ⟨d0, d1, d2'⟩ := fr_res (f := ⟨k2, st2, d2⟩) HD.out
  obtain ⟨f0, f1, f2⟩ := fr_res (f := ⟨k2, st2, d2⟩) HF.out
  dsimp only at d0 d1 d2' f0 f1 f2
  have hgu := fr_guard
  have heq := fr_eql ⟨k2, st2, d2⟩ ⟨k2, st2, d2⟩ true (frB_refl _)
  dsimp only at heq
  go_wp2_with (fail)
  go_region_held3 (fun w' => Keeps [] w w' ∧ w'.cell? ⟨w.heap.size, 0, none⟩ = some (.int .i64 k) ∧ w'.cell? ⟨w.heap.size, 1, none⟩ = some (.int .i64 st) ∧ w'.cell? ⟨w.heap.size, 2, none⟩ = some (.string d') ∧ w'.cell? ⟨wt.heap.size, 0, none⟩ = some (.int .i64 k2) ∧ w'.cell? ⟨wt.heap.size, 1, none⟩ = some (.int .i64 st2) ∧ w'.cell? ⟨wt.heap.size, 2, none⟩ = some (.string d2) ∧ w'.cell? ⟨wu.heap.size, 0, none⟩ = some (.int .i64 k2) ∧ w'.cell? ⟨wu.heap.size, 1, none⟩ = some (.int .i64 st2) ∧ w'.cell? ⟨wu.heap.size, 2, none⟩ = some (.string d2)) (first | exact held9 hk (by assumption) | exact ⟨HK.out.drew, c0, c1, c2, d0, d1, d2', f0, f1, f2⟩ | assumption) (first | (go_at_call 19; refine (right_any ⟨k, st, d'⟩ HDD.out R HR.out _).mono ?_; rintro e w' ⟨rfl, hk⟩) | (go_at_call 20; refine (rright_any ⟨k, st, d'⟩ HDD.out R HR.out _).mono ?_; rintro e w' ⟨rfl, hk⟩) | (go_at_call 21; refine (number_eq c HCS.out m HN.out _).mono ?_; rintro e w' ⟨rfl, hk⟩) | (go_at_call 22; refine (rnumber_k c HCS.out m HN.out _).mono ?_; rintro e w' ⟨rfl, hk⟩))
  all_goals (have hKK := And.left (show Keeps [] w _ ∧ _ by assumption); go_wp2; go_ret; exact ⟨rfl, hKK.below (Nat.le_refl _) (by simp)⟩)

theorem walk (x : Fr) (s : ByteArray) (at_ n : Int) (hx : x.data.size ≤ maxLen) (hs : s.size ≤ maxLen) (_ : (Lit.int IntKind.i64 at_).wf = true) (_ : (Lit.int IntKind.i64 n).wf = true) (w : World) (e : Nat → Addr) (he : Env w e) :
    Calls Tryd.prog 3 #[x.v, .string s, .int .i64 at_, .int .i64 n] w fun e w' => e = .returned (.bool true) ∧ Below w.heap.size w w' := by
  obtain ⟨k, st, d⟩ := x
  have h1 := cutS_size s
  have h2 : (d.extract 0 (min d.size 513)).size ≤ maxLen := by rw [extract_size]; unfold maxLen; omega
  rcases hT : TakeA (cutS s) at_ with ⟨⟨k2, st2, d2⟩, n2, q2⟩
  rcases hA : encA ⟨k, st, d.extract 0 (min d.size 513)⟩ with ⟨a, q⟩
  rcases hB : bytesA n with ⟨b, q3⟩
  exact walk_codes k st d _ hx rfl h2 s _ hs rfl (by unfold maxLen; omega) at_ n _ rfl a q hA k2 st2 d2 n2 q2 hT b q3 hB _ rfl w e he


set_option maxRecDepth 100000 in
theorem lifted (os : Os) (started : os.Started) (H : Type) (enc : TypeId × Value → H) :
    ReturnsInHanded {} Tryd.checked os 3 .any (fun w args => (Rows.wireCodesSpec.pre enc Tryd.prog Tryd.f3 [] false w args ∧ laidMetH Tryd.prog wlaid w) ∧ sizedMet enc Tryd.prog Tryd.f3 (OpenSpec.ofChange Rows.wireCodesSpec) false w args)
      (Rows.wireCodesSpec.post enc Tryd.prog Tryd.f3 false true false false) := by
  refine returnsInHanded_of_change_and (C := Tryd.checked) (X := fun w _ => laidMetH Tryd.prog wlaid w) (fun _ _ _ hh h => h.of_heap hh) own started (by kernel_rfl) Tryd.func3
    (ChangeSpec.witness_shaped (enc := enc) (C := Tryd.checked) (os := os) (X := fun w _ => laidMetH Tryd.prog wlaid w) false (World.doorLaid Tryd.prog 400 os) #[.agg #[.int .i64 0, .int .i64 0, .string ByteArray.empty], .string ByteArray.empty, .int .i64 0, .int .i64 0] 8 rfl (World.shaped_of_RefB (by kernel_rfl) (by kernel_rfl)) (by kernel_rfl) (by kernel_rfl) (by kernel_rfl) (door_met os _)) ?_
  intro W base args ds gs before hval0 hW _ _ hL _
  have hval : ∀ (j : Nat) t v, Tryd.f3.params[j]? = some t → args[j]? = some v → Value.okWide Tryd.prog W .any base t v := hval0
  have hW' := hW
  obtain ⟨p, q, hA0, hV, rfl, hfz, hnd⟩ := hW
  have hA : DataW.TrodAll enc Tryd.prog W 0 (fun _ => true) true Tryd.f3.params.toList args.toList ds p := hA0
  rw [Tryd.params3] at hA hval
  obtain ⟨v0, vs0, d0, ds0, p0, q0, hargs, rfl, rfl, h0, r0⟩ := trodAll_cons hA
  obtain ⟨v1, vs1, d1, ds1, p1, q1, rfl, rfl, rfl, h1, r1⟩ := trodAll_cons r0
  obtain ⟨v2, vs2, d2, ds2, p2, q2, rfl, rfl, rfl, h2, r2⟩ := trodAll_cons r1
  obtain ⟨v3, vs3, d3, ds3, p3, q3, rfl, rfl, rfl, h3, r3⟩ := trodAll_cons r2
  obtain ⟨rfl, rfl, rfl⟩ := trodAll_nil r3
  obtain rfl : args = #[v0, v1, v2, v3] := by cases args; simp_all
  obtain ⟨rfl, rfl⟩ := trodVars_none hV
  obtain ⟨x0, rfl, w0⟩ := open_frame (hval 0 23 v0 rfl rfl) h0
  obtain ⟨a1, rfl, rfl, rfl, w1⟩ := open_string Tryd.underlying9 (hval 1 9 v1 rfl rfl) h1
  obtain ⟨a2, rfl, rfl, rfl, w2⟩ := open_int Tryd.underlying3 (hval 2 3 v2 rfl rfl) h2
  obtain ⟨a3, rfl, rfl, rfl, w3⟩ := open_int Tryd.underlying3 (hval 3 3 v3 rfl rfl) h3
  obtain ⟨e, hE⟩ := env_of_laid hL
  refine (walk x0 a1 a2 a3 w0 w1 w2 w3 W e hE).mono fun e W' ⟨he, hb⟩ => ?_
  subst he
  exact ⟨_, rfl, law_post (by kernel_rfl) (by decide +kernel) rfl rfl Tryd.underlying4 hW' hb ⟨rfl, rfl, rfl⟩⟩

theorem over : Rows.wireCodesRow.holds Tryd.pinned (OpenSpec.ofChange Rows.wireCodesSpec) :=
  OpenClaim.holds_of_wide 3 Tryd.f3 rfl rfl rfl rfl rfl rfl rfl ⟨rfl, rfl, rfl, rfl, rfl⟩ rfl rfl rfl rfl rfl (by kernel_rfl) Tryd.func3 (by kernel_rfl)
    (of_decide_eq_true (by kernel_rfl)) (by unfold Func.isWrapper; first | (rw [if_pos (by decide +kernel)]; kernel_rfl) | (rw [if_neg (by decide +kernel)]; exact ⟨rfl, rfl⟩))
    (fun os started H enc _ => lifted os started H enc)

theorem proved : Rows.WireCodesCardSaid :=
  Claim7.holds_tied_plain_at .later [] [.sentinel, .sentinel, .sentinel, .sentinel, .sentinel] true (true, "998b37b86f346886364dd286543734421a9732a2b7459e040ada6a4648f163c4") true
    over (fun _ h => by cases h) (by kernel_rfl) (fun _ h => by cases h) wireCodes_row_tie rfl ⟨rfl, rfl⟩ (by kernel_rfl) rfl
    (fun f fn hf hfn => by
      obtain rfl : f = 3 := Option.some.inj ((show Tryd.prog.funcNamed "wicketgate/wicketgatelaw03.WireCodes" = some 3 by kernel_rfl).symm.trans hf) |>.symm
      obtain rfl : fn = Tryd.f3 := (Option.some.inj (Tryd.func3.symm.trans hfn)).symm
      exact ⟨by kernel_rfl, fun j t ht => by
        rw [Tryd.params3] at ht
        have hm : t ∈ [23, 9, 3, 3] := by simpa using Array.mem_of_getElem? ht
        have hall : ([23, 9, 3, 3].all fun u => !Tryd.prog.wantsStandIn u) = true := by kernel_rfl
        exact (show Tryd.prog.wantsStandIn t = false by simpa using List.all_eq_true.1 hall t hm)⟩)
    (by kernel_rfl)

end wireCodes
end Go.Proofs.YtfedhhndkeakhaaDoor
