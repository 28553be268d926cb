/- WireAll: all frames of a text: for every text. No condition beyond the card's. -/
import Derived.Test.YtfedhhndkeakhaaDoorWireLaw
namespace Go.Proofs.YtfedhhndkeakhaaDoor
open Go.RowKit Go.Shelf

namespace wireAll
open Go.ChangeShapes Go.WideShapes Go.ChangeAt
open Go.ChangeMaps (open_string)
attribute [local go_sem ↓] Go.wp_at_zero Go.wp_at_succ

set_option maxRecDepth 100000 in
set_option maxHeartbeats 2000000 in
theorem walk_all (s : ByteArray) (hs : s.size ≤ maxLen) (w : World) (e : Nat → Addr) (he : Env w e) (c : ByteArray) (hc : cutS s = c) (hcs : c.size ≤ 1000000) (L : List Fr) (a q : Int) (hA : allA c = (L, a, q)) (hL : L.length ≤ 1000000) :
    Calls Tryd.prog 4 #[.string s] w fun e w' => e = .returned (.bool true) ∧ Below w.heap.size w w' := by
  have HE := Lib.hid he
  have HS := Lib.hid hs
  have HC := Lib.hid hc
  have HCS := Lib.hid hcs
  have HA := Lib.hid hA
  have HLL := Lib.hid hL
  have HK := Lib.hid (Keeps.refl [] w)
  clear he hs hc hcs hA hL
  go_enter Tryd.func4, Tryd.ntmps4
  go_wp2_with (fail)
  refine (wshown_any _ e HE.out).mono ?_
  rintro r w1 ⟨rfl, hk⟩
  have HE := Lib.hid (HE.out.keep hk)
  have HK := Lib.hid (HK.out.trans hk)
  clear hk
  go_wp2_with (fail)
  refine (cut_any s HS.out _).mono ?_
  rintro r w1 ⟨rfl, rfl⟩
  rw [HC.out]
  go_wp2_with (fail)
  refine (all_any c HCS.out L a q HA.out _ e HE.out).mono ?_
  rintro r w1 ⟨v1, rfl, hrow, hbel⟩
  obtain ⟨p1, c1, rfl, _, hin⟩ := frs_of_row hrow
  have hk := Keeps.of_below hbel []
  have HI1 := Lib.hid hin
  have HE := Lib.hid (HE.out.keep hk)
  have HK := Lib.hid (HK.out.trans hk)
  clear hk hrow hbel hin
  go_wp2_with (fail)
  refine (rall_any c HCS.out L a q HA.out _).mono ?_
  rintro r w1 ⟨v2, rfl, hrow, hbel⟩
  obtain ⟨p2, c2, rfl, _, hin⟩ := frs_of_row hrow
  have hk := Keeps.of_below hbel []
  have HI2 := Lib.hid hin
  have HI1 := Lib.hid (HI1.out.keeps hk)
  have HK := Lib.hid (HK.out.trans hk)
  clear hk hrow hbel hin
  go_wp2_with (fail)
  refine (same_any p1 p2 c1 c2 L L true (by simp) _ HI1.out HI2.out HLL.out HLL.out).mono ?_
  rintro r w1 ⟨rfl, hk⟩
  have HK := Lib.hid (HK.out.trans hk)
  clear hk
  go_wp2_with (fail)
  go_ret
  exact ⟨rfl, HK.out.below (Nat.le_refl _) (by simp)⟩

theorem walk (s : ByteArray) (hs : s.size ≤ maxLen) (w : World) (e : Nat → Addr) (he : Env w e) :
    Calls Tryd.prog 4 #[.string s] w fun e w' => e = .returned (.bool true) ∧ Below w.heap.size w w' := by
  have h1 := cutS_size s
  have h2 := items_len (cutS s)
  refine walk_all s hs w e he _ rfl (by omega) _ _ _ rfl ?_
  rw [List.length_map]
  omega


set_option maxRecDepth 100000 in
theorem lifted (os : Os) (started : os.Started) (H : Type) (enc : TypeId × Value → H) :
    ReturnsInHanded {} Tryd.checked os 4 .any (fun w args => (Rows.wireAllSpec.pre enc Tryd.prog Tryd.f4 [] false w args ∧ laidMetH Tryd.prog wlaid w) ∧ sizedMet enc Tryd.prog Tryd.f4 (OpenSpec.ofChange Rows.wireAllSpec) false w args)
      (Rows.wireAllSpec.post enc Tryd.prog Tryd.f4 false true false false) := by
  refine returnsInHanded_of_change_and (C := Tryd.checked) (X := fun w _ => laidMetH Tryd.prog wlaid w) (fun _ _ _ hh h => h.of_heap hh) own started (by kernel_rfl) Tryd.func4
    (ChangeSpec.witness_shaped (enc := enc) (C := Tryd.checked) (os := os) (X := fun w _ => laidMetH Tryd.prog wlaid w) false (World.doorLaid Tryd.prog 400 os) #[.string ByteArray.empty] 8 rfl (World.shaped_of_RefB (by kernel_rfl) (by kernel_rfl)) (by kernel_rfl) (by kernel_rfl) (by kernel_rfl) (door_met os _)) ?_
  intro W base args ds gs before hval0 hW _ _ hL _
  have hval : ∀ (j : Nat) t v, Tryd.f4.params[j]? = some t → args[j]? = some v → Value.okWide Tryd.prog W .any base t v := hval0
  have hW' := hW
  obtain ⟨p, q, hA0, hV, rfl, hfz, hnd⟩ := hW
  have hA : DataW.TrodAll enc Tryd.prog W 0 (fun _ => true) true Tryd.f4.params.toList args.toList ds p := hA0
  rw [Tryd.params4] at hA hval
  obtain ⟨v0, vs0, d0, ds0, p0, q0, hargs, rfl, rfl, h0, r0⟩ := trodAll_cons hA
  obtain ⟨rfl, rfl, rfl⟩ := trodAll_nil r0
  obtain rfl : args = #[v0] := by cases args; simp_all
  obtain ⟨rfl, rfl⟩ := trodVars_none hV
  obtain ⟨a0, rfl, rfl, rfl, w0⟩ := open_string Tryd.underlying9 (hval 0 9 v0 rfl rfl) h0
  obtain ⟨e, hE⟩ := env_of_laid hL
  refine (walk a0 w0 W e hE).mono fun e W' ⟨he, hb⟩ => ?_
  subst he
  exact ⟨_, rfl, law_post (by kernel_rfl) (by decide +kernel) rfl rfl Tryd.underlying4 hW' hb ⟨rfl, rfl, rfl⟩⟩

theorem over : Rows.wireAllRow.holds Tryd.pinned (OpenSpec.ofChange Rows.wireAllSpec) :=
  OpenClaim.holds_of_wide 4 Tryd.f4 rfl rfl rfl rfl rfl rfl rfl ⟨rfl, rfl, rfl, rfl, rfl⟩ rfl rfl rfl rfl rfl (by kernel_rfl) Tryd.func4 (by kernel_rfl)
    (of_decide_eq_true (by kernel_rfl)) (by unfold Func.isWrapper; first | (rw [if_pos (by decide +kernel)]; kernel_rfl) | (rw [if_neg (by decide +kernel)]; exact ⟨rfl, rfl⟩))
    (fun os started H enc _ => lifted os started H enc)

theorem proved : Rows.WireAllCardSaid :=
  Claim7.holds_tied_plain_at .later [] [.sentinel, .sentinel, .sentinel, .sentinel, .sentinel] true (true, "998b37b86f346886364dd286543734421a9732a2b7459e040ada6a4648f163c4") true
    over (fun _ h => by cases h) (by kernel_rfl) (fun _ h => by cases h) wireAll_row_tie rfl ⟨rfl, rfl⟩ (by kernel_rfl) rfl
    (fun f fn hf hfn => by
      obtain rfl : f = 4 := Option.some.inj ((show Tryd.prog.funcNamed "wicketgate/wicketgatelaw03.WireAll" = some 4 by kernel_rfl).symm.trans hf) |>.symm
      obtain rfl : fn = Tryd.f4 := (Option.some.inj (Tryd.func4.symm.trans hfn)).symm
      exact ⟨by kernel_rfl, fun j t ht => by
        rw [Tryd.params4] at ht
        have hm : t ∈ [9] := by simpa using Array.mem_of_getElem? ht
        have hall : ([9].all fun u => !Tryd.prog.wantsStandIn u) = true := by kernel_rfl
        exact (show Tryd.prog.wantsStandIn t = false by simpa using List.all_eq_true.1 hall t hm)⟩)
    (by kernel_rfl)

end wireAll
end Go.Proofs.YtfedhhndkeakhaaDoor
