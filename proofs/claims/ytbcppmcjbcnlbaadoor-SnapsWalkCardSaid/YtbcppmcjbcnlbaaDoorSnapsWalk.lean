/- SnapsWalk: pages one after the other are all items, each once, whatever is pinned between them: for every pool, listing, page size, time and numbers. No condition beyond the card's. -/
import Derived.Test.YtbcppmcjbcnlbaaDoorSnapWk
namespace Go.Proofs.YtbcppmcjbcnlbaaDoor
open Go.RowKit Go.Shelf

namespace snapsWalk
open Go.ChangeShapes Go.WideShapes Go.ChangeAt
open Go.ChangeMaps (open_string)

theorem walk (a0 : Option Addr) (c0 : Nat) (V0 : List SV) (L0 : List Sn) (x0 : Int) (a1 : Option Addr) (xs1 : List ByteArray) (c1 : Nat) (a2 : Int) (a3 : Int) (a4 : Option Addr) (xs4 : List Int) (c4 : Nat) (w : World) (h0 : PoolArg w a0 V0 L0) (h1 : StrsArg w a1 xs1) (h4 : IntsArg w a4 c4 xs4) (e : Nat → Addr) (he : Env w e) :
    Calls Tryd.prog 3 #[.agg #[.slice a0 V0.length c0, .int .i64 x0], .slice a1 xs1.length c1, .int .i64 a2, .int .i64 a3, .slice a4 xs4.length c4] w fun e w' => e = .returned (.bool true) ∧ Below w.heap.size w w' :=
  (walklaw_any a0 c0 V0 L0 _ rfl x0 a1 c1 _ xs1 rfl a2 a3 a4 c4 _ xs4 rfl w h0 h1 h4 e he).mono fun _ _ ⟨hr, hk⟩ => ⟨hr, hk.below (Nat.le_refl _) (by simp)⟩

set_option maxRecDepth 100000 in
theorem lifted (os : Os) (started : os.Started) (H : Type) (enc : TypeId × Value → H) :
    ReturnsInHanded {} Tryd.checked os 3 .any (fun w args => (Rows.snapsWalkSpec.pre enc Tryd.prog Tryd.f3 [] false w args ∧ laidMetH Tryd.prog wlaid w) ∧ sizedMet enc Tryd.prog Tryd.f3 (OpenSpec.ofChange Rows.snapsWalkSpec) false w args)
      (Rows.snapsWalkSpec.post enc Tryd.prog Tryd.f3 false true false false) := by
  refine returnsInHanded_of_change_and (C := Tryd.checked) (X := fun w _ => laidMetH Tryd.prog wlaid w) (fun _ _ _ hh h => h.of_heap hh) own started (by kernel_rfl) Tryd.func3
    (ChangeSpec.witness_shaped (enc := enc) (C := Tryd.checked) (os := os) (X := fun w _ => laidMetH Tryd.prog wlaid w) false (World.doorLaid Tryd.prog 400 os) #[.agg #[.slice none 0 0, .int .i64 0], .slice none 0 0, .int .i64 0, .int .i64 0, .slice none 0 0] 8 rfl (World.shaped_of_RefB (by kernel_rfl) (by kernel_rfl)) (by kernel_rfl) (by kernel_rfl) (by kernel_rfl) (door_met os _)) ?_
  intro W base args ds gs before hval0 hW _ _ hL _
  have hval : ∀ (j : Nat) t v, Tryd.f3.params[j]? = some t → args[j]? = some v → Value.okWide Tryd.prog W .any base t v := hval0
  have hW' := hW
  obtain ⟨p, q, hA0, hV, rfl, hfz, hnd⟩ := hW
  have hA : DataW.TrodAll enc Tryd.prog W 0 (fun _ => true) true Tryd.f3.params.toList args.toList ds p := hA0
  rw [Tryd.params3] at hA hval
  obtain ⟨v0, vs0, d0, ds0, p0, q0, hargs, rfl, rfl, h0, r0⟩ := trodAll_cons hA
  obtain ⟨v1, vs1, d1, ds1, p1, q1, rfl, rfl, rfl, h1, r1⟩ := trodAll_cons r0
  obtain ⟨v2, vs2, d2, ds2, p2, q2, rfl, rfl, rfl, h2, r2⟩ := trodAll_cons r1
  obtain ⟨v3, vs3, d3, ds3, p3, q3, rfl, rfl, rfl, h3, r3⟩ := trodAll_cons r2
  obtain ⟨v4, vs4, d4, ds4, p4, q4, rfl, rfl, rfl, h4, r4⟩ := trodAll_cons r3
  obtain ⟨rfl, rfl, rfl⟩ := trodAll_nil r4
  obtain rfl : args = #[v0, v1, v2, v3, v4] := by cases args; simp_all
  obtain ⟨rfl, rfl⟩ := trodVars_none hV
  obtain ⟨a0, c0, V0, L0, x0, rfl, w0⟩ := open_pool (hval 0 24 v0 rfl rfl) h0
  obtain ⟨a1, xs1, c1, rfl, w1⟩ := open_strs (hval 1 25 v1 rfl rfl) h1
  obtain ⟨a2, rfl, rfl, rfl, w2⟩ := open_int Tryd.underlying3 (hval 2 3 v2 rfl rfl) h2
  obtain ⟨a3, rfl, rfl, rfl, w3⟩ := open_int Tryd.underlying3 (hval 3 3 v3 rfl rfl) h3
  obtain ⟨a4, xs4, c4, rfl, w4⟩ := open_nums (hval 4 26 v4 rfl rfl) h4
  obtain ⟨e, hE⟩ := env_of_laid hL
  refine (walk a0 c0 V0 L0 x0 a1 xs1 c1 a2 a3 a4 xs4 c4 W w0 w1 w4 e hE).mono fun e W' ⟨he, hb⟩ => ?_
  subst he
  exact ⟨_, rfl, law_post (by kernel_rfl) (by decide +kernel) rfl rfl Tryd.underlying4 hW' hb ⟨rfl, rfl, rfl⟩⟩

theorem over : Rows.snapsWalkRow.holds Tryd.pinned (OpenSpec.ofChange Rows.snapsWalkSpec) :=
  OpenClaim.holds_of_wide 3 Tryd.f3 rfl rfl rfl rfl rfl rfl rfl ⟨rfl, rfl, rfl, rfl, rfl⟩ rfl rfl rfl rfl rfl (by kernel_rfl) Tryd.func3 (by kernel_rfl)
    (of_decide_eq_true (by kernel_rfl)) (by unfold Func.isWrapper; first | (rw [if_pos (by decide +kernel)]; kernel_rfl) | (rw [if_neg (by decide +kernel)]; exact ⟨rfl, rfl⟩))
    (fun os started H enc _ => lifted os started H enc)

theorem proved : Rows.SnapsWalkCardSaid :=
  Claim7.holds_tied_plain_at .later [] [.sentinel, .sentinel, .sentinel] true (true, "2333ad25e9266990b88d86769e0442bc542cba22204b1d59600043920aaa0807") true
    over (fun _ h => by cases h) (by kernel_rfl) (fun _ h => by cases h) snapsWalk_row_tie rfl ⟨rfl, rfl⟩ (by kernel_rfl) rfl
    (fun f fn hf hfn => by
      obtain rfl : f = 3 := Option.some.inj ((show Tryd.prog.funcNamed "wicketgate/wicketgatelaw16.SnapsWalk" = some 3 by kernel_rfl).symm.trans hf) |>.symm
      obtain rfl : fn = Tryd.f3 := (Option.some.inj (Tryd.func3.symm.trans hfn)).symm
      exact ⟨by kernel_rfl, fun j t ht => by
        rw [Tryd.params3] at ht
        have hm : t ∈ [24, 25, 3, 3, 26] := by simpa using Array.mem_of_getElem? ht
        have hall : ([24, 25, 3, 3, 26].all fun u => !Tryd.prog.wantsStandIn u) = true := by kernel_rfl
        exact (show Tryd.prog.wantsStandIn t = false by simpa using List.all_eq_true.1 hall t hm)⟩)
    (by kernel_rfl)

end snapsWalk
end Go.Proofs.YtbcppmcjbcnlbaaDoor
