/- SnapsTurns: which pools are right, the same, what is pinned, and paged, is as the document says: for every two pools, listing, cursor, place, number and time. No condition beyond the card's. -/
import Derived.Test.YtbcppmcjbcnlbaaDoorSnapTu
namespace Go.Proofs.YtbcppmcjbcnlbaaDoor
open Go.RowKit Go.Shelf

namespace snapsTurns
open Go.ChangeShapes Go.WideShapes Go.ChangeAt
open Go.ChangeMaps (open_string)

theorem walk (a0 : Option Addr) (c0 : Nat) (V0 : List SV) (L0 : List Sn) (x0 : Int) (a1 : Option Addr) (c1 : Nat) (V1 : List SV) (L1 : List Sn) (x1 : Int) (a2 : Option Addr) (xs2 : List ByteArray) (c2 : Nat) (a3 : Int) (a4 : Int) (a5 : Int) (a6 : Int) (w : World) (h0 : PoolArg w a0 V0 L0) (h1 : PoolArg w a1 V1 L1) (h2 : StrsArg w a2 xs2) (e : Nat → Addr) (he : Env w e) :
    Calls Tryd.prog 8 #[.agg #[.slice a0 V0.length c0, .int .i64 x0], .agg #[.slice a1 V1.length c1, .int .i64 x1], .slice a2 xs2.length c2, .int .i64 a3, .int .i64 a4, .int .i64 a5, .int .i64 a6] w fun e w' => e = .returned (.bool true) ∧ Below w.heap.size w w' :=
  (turnslaw_any a0 c0 V0 L0 _ rfl x0 a1 c1 V1 L1 _ rfl x1 a2 c2 _ xs2 rfl a3 a4 a5 a6 w h0 h1 h2 e he).mono fun _ _ ⟨hr, hk⟩ => ⟨hr, hk.below (Nat.le_refl _) (by simp)⟩

set_option maxRecDepth 100000 in
theorem lifted (os : Os) (started : os.Started) (H : Type) (enc : TypeId × Value → H) :
    ReturnsInHanded {} Tryd.checked os 8 .any (fun w args => (Rows.snapsTurnsSpec.pre enc Tryd.prog Tryd.f8 [] false w args ∧ laidMetH Tryd.prog wlaid w) ∧ sizedMet enc Tryd.prog Tryd.f8 (OpenSpec.ofChange Rows.snapsTurnsSpec) false w args)
      (Rows.snapsTurnsSpec.post enc Tryd.prog Tryd.f8 false true false false) := by
  refine returnsInHanded_of_change_and (C := Tryd.checked) (X := fun w _ => laidMetH Tryd.prog wlaid w) (fun _ _ _ hh h => h.of_heap hh) own started (by kernel_rfl) Tryd.func8
    (ChangeSpec.witness_shaped (enc := enc) (C := Tryd.checked) (os := os) (X := fun w _ => laidMetH Tryd.prog wlaid w) false (World.doorLaid Tryd.prog 400 os) #[.agg #[.slice none 0 0, .int .i64 0], .agg #[.slice none 0 0, .int .i64 0], .slice none 0 0, .int .i64 0, .int .i64 0, .int .i64 0, .int .i64 0] 8 rfl (World.shaped_of_RefB (by kernel_rfl) (by kernel_rfl)) (by kernel_rfl) (by kernel_rfl) (by kernel_rfl) (door_met os _)) ?_
  intro W base args ds gs before hval0 hW _ _ hL _
  have hval : ∀ (j : Nat) t v, Tryd.f8.params[j]? = some t → args[j]? = some v → Value.okWide Tryd.prog W .any base t v := hval0
  have hW' := hW
  obtain ⟨p, q, hA0, hV, rfl, hfz, hnd⟩ := hW
  have hA : DataW.TrodAll enc Tryd.prog W 0 (fun _ => true) true Tryd.f8.params.toList args.toList ds p := hA0
  rw [Tryd.params8] at hA hval
  obtain ⟨v0, vs0, d0, ds0, p0, q0, hargs, rfl, rfl, h0, r0⟩ := trodAll_cons hA
  obtain ⟨v1, vs1, d1, ds1, p1, q1, rfl, rfl, rfl, h1, r1⟩ := trodAll_cons r0
  obtain ⟨v2, vs2, d2, ds2, p2, q2, rfl, rfl, rfl, h2, r2⟩ := trodAll_cons r1
  obtain ⟨v3, vs3, d3, ds3, p3, q3, rfl, rfl, rfl, h3, r3⟩ := trodAll_cons r2
  obtain ⟨v4, vs4, d4, ds4, p4, q4, rfl, rfl, rfl, h4, r4⟩ := trodAll_cons r3
  obtain ⟨v5, vs5, d5, ds5, p5, q5, rfl, rfl, rfl, h5, r5⟩ := trodAll_cons r4
  obtain ⟨v6, vs6, d6, ds6, p6, q6, rfl, rfl, rfl, h6, r6⟩ := trodAll_cons r5
  obtain ⟨rfl, rfl, rfl⟩ := trodAll_nil r6
  obtain rfl : args = #[v0, v1, v2, v3, v4, v5, v6] := by cases args; simp_all
  obtain ⟨rfl, rfl⟩ := trodVars_none hV
  obtain ⟨a0, c0, V0, L0, x0, rfl, w0⟩ := open_pool (hval 0 24 v0 rfl rfl) h0
  obtain ⟨a1, c1, V1, L1, x1, rfl, w1⟩ := open_pool (hval 1 24 v1 rfl rfl) h1
  obtain ⟨a2, xs2, c2, rfl, w2⟩ := open_strs (hval 2 25 v2 rfl rfl) h2
  obtain ⟨a3, rfl, rfl, rfl, w3⟩ := open_int Tryd.underlying3 (hval 3 3 v3 rfl rfl) h3
  obtain ⟨a4, rfl, rfl, rfl, w4⟩ := open_int Tryd.underlying3 (hval 4 3 v4 rfl rfl) h4
  obtain ⟨a5, rfl, rfl, rfl, w5⟩ := open_int Tryd.underlying3 (hval 5 3 v5 rfl rfl) h5
  obtain ⟨a6, rfl, rfl, rfl, w6⟩ := open_int Tryd.underlying3 (hval 6 3 v6 rfl rfl) h6
  obtain ⟨e, hE⟩ := env_of_laid hL
  refine (walk a0 c0 V0 L0 x0 a1 c1 V1 L1 x1 a2 xs2 c2 a3 a4 a5 a6 W w0 w1 w2 e hE).mono fun e W' ⟨he, hb⟩ => ?_
  subst he
  exact ⟨_, rfl, law_post (by kernel_rfl) (by decide +kernel) rfl rfl Tryd.underlying4 hW' hb ⟨rfl, rfl, rfl⟩⟩

theorem over : Rows.snapsTurnsRow.holds Tryd.pinned (OpenSpec.ofChange Rows.snapsTurnsSpec) :=
  OpenClaim.holds_of_wide 8 Tryd.f8 rfl rfl rfl rfl rfl rfl rfl ⟨rfl, rfl, rfl, rfl, rfl⟩ rfl rfl rfl rfl rfl (by kernel_rfl) Tryd.func8 (by kernel_rfl)
    (of_decide_eq_true (by kernel_rfl)) (by unfold Func.isWrapper; first | (rw [if_pos (by decide +kernel)]; kernel_rfl) | (rw [if_neg (by decide +kernel)]; exact ⟨rfl, rfl⟩))
    (fun os started H enc _ => lifted os started H enc)

theorem proved : Rows.SnapsTurnsCardSaid :=
  Claim7.holds_tied_plain_at .later [] [.sentinel, .sentinel, .sentinel] true (true, "2333ad25e9266990b88d86769e0442bc542cba22204b1d59600043920aaa0807") true
    over (fun _ h => by cases h) (by kernel_rfl) (fun _ h => by cases h) snapsTurns_row_tie rfl ⟨rfl, rfl⟩ (by kernel_rfl) rfl
    (fun f fn hf hfn => by
      obtain rfl : f = 8 := Option.some.inj ((show Tryd.prog.funcNamed "wicketgate/wicketgatelaw16.SnapsTurns" = some 8 by kernel_rfl).symm.trans hf) |>.symm
      obtain rfl : fn = Tryd.f8 := (Option.some.inj (Tryd.func8.symm.trans hfn)).symm
      exact ⟨by kernel_rfl, fun j t ht => by
        rw [Tryd.params8] at ht
        have hm : t ∈ [24, 24, 25, 3, 3, 3, 3] := by simpa using Array.mem_of_getElem? ht
        have hall : ([24, 24, 25, 3, 3, 3, 3].all fun u => !Tryd.prog.wantsStandIn u) = true := by kernel_rfl
        exact (show Tryd.prog.wantsStandIn t = false by simpa using List.all_eq_true.1 hall t hm)⟩)
    (by kernel_rfl)

end snapsTurns
end Go.Proofs.YtbcppmcjbcnlbaaDoor
