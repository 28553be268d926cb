/- FifoLooks: a look changes nothing, and tells what is popped then: for every capacity, list of calls and number. No condition. -/
import Derived.Test.YthngchdfbcpciaaLawOps
namespace Go.Proofs.Ythngchdfbcpciaa.fifoLooks
open Go.RowKit
open Go.ChangeShapes Go.WideShapes Go.ChangeAt
open Go.ChangeMaps (open_string shut_string)

set_option maxRecDepth 100000 in
set_option maxHeartbeats 1000000 in
theorem walk_bad (n : Int) (a : Option Addr) (c : Nat) (xs : List Op1) (m : Int) (w : World) (h : n < 1 ∨ 4096 < n) (hx : OpsArg w a xs) :
    Calls Try.prog 6 #[.int .i64 n, .slice a xs.length c, .int .i64 m] w fun e w' => e = .returned (.bool true) ∧ Below w.heap.size w w' := by
  have HX := Lib.hid hx
  clear hx
  go_enter Try.func6, Try.ntmps6
  go_wp2_with (fail)
  refine (shown_any _).mono ?_
  rintro e w1 ⟨rfl, hk1⟩
  have HK1 := Lib.hid hk1
  clear hk1
  go_wp2_with (fail)
  refine (cutops_in _ a c xs (HX.out.keeps HK1.out (by simp))).mono ?_
  rintro e w2 ⟨a', c', rfl, -, hk2⟩
  have HK2 := Lib.hid (HK1.out.trans hk2)
  clear hk2
  go_wp2_with (fail)
  refine (new_bad n _ h).mono ?_
  rintro e w' ⟨rfl, rfl⟩
  go_wp2_with (fail)
  go_ret
  exact ⟨rfl, HK2.out.below (Nat.le_refl _) (by simp)⟩

set_option maxRecDepth 100000 in
set_option maxHeartbeats 2000000 in
theorem walk_good (cap : Nat) (a : Option Addr) (c : Nat) (xs : List Op1) (m : Int) (w : World) (hc1 : 1 ≤ cap) (hc2 : cap ≤ 4096) (hx : OpsArg w a xs) :
    Calls Try.prog 6 #[.int .i64 cap, .slice a xs.length c, .int .i64 m] w fun e w' => e = .returned (.bool true) ∧ Below w.heap.size w w' := by
  have HX := Lib.hid hx
  have hyl := cutOps_length xs
  have HYS := Lib.hid (cutOps_size xs)
  clear hx
  go_enter Try.func6, Try.ntmps6
  go_wp2_with (fail)
  refine (shown_any _).mono ?_
  rintro e w1 ⟨rfl, hk1⟩
  have HK1 := Lib.hid hk1
  clear hk1
  go_wp2_with (fail)
  refine (cutops_in _ a c xs (HX.out.keeps HK1.out (by simp))).mono ?_
  rintro e w2 ⟨a', c', rfl, hin, hk2⟩
  generalize cutOps xs = ys at hin hyl HYS ⊢
  have HK2 := Lib.hid (HK1.out.trans hk2)
  have HIN := Lib.hid hin
  clear hk2 hin
  go_wp2_with (fail)
  refine (new_ok cap _ hc1 hc2).mono ?_
  rintro e w3 ⟨rfl, hf3, hk3, -⟩
  have HF3 := Lib.hid hf3
  have HK3 := Lib.hid (HK2.out.trans hk3)
  have HIN3 := Lib.hid (HIN.out.keeps hk3 (by simp))
  have hws : w.heap.size ≤ w2.heap.size := HK2.out.size
  clear hf3 hk3
  go_wp2_with (fail)
  go_loopw [10] (fun i wr => ∃ (k : Nat) (q : List UInt8), i = .int .i64 k ∧ k ≤ ys.length ∧ Hid (Fi wr (w2.heap.size + 1) w2.heap.size cap q) ∧ Hid (Keeps [] w wr) ∧ Hid (OpsIn wr w2.heap.size a' ys)) (fun i _ => ys.length - (intOf i).toNat)
  case atStart => exact ⟨0, [], rfl, Nat.zero_le _, HF3, HK3, HIN3⟩
  case round =>
    obtain ⟨k, q, rfl, hk, HF, HK, HI⟩ := hrel
    by_cases hlt : k < ys.length
    · obtain ⟨g, x, rfl, hyx, hx0, hx1, hx2⟩ := HI.out.at_ hlt
      have hsz : x.s.size ≤ 1000000 := by have := HYS.out x (List.mem_of_getElem? hyx); omega
      have HYX := Lib.hid hyx
      clear hyx
      go_wp2_with (fail)
      refine (do_agg x.kind x.n x.s _ _ cap q _ HF.out hsz).mono ?_
      rintro e w4 ⟨n', t', -, rfl, hf4, hk4⟩
      have HF4 := Lib.hid hf4
      have HK4 := Lib.hid (HK.out.trans' hk4 (by simp; omega))
      have HI4 := Lib.hid (HI.out.keeps hk4 (by simp))
      clear hf4 hk4
      go_wp2_with (fail)
      go_roundw
      case rel => exact ⟨k + 1, _, by go_num, by omega, HF4, HK4, HI4⟩
      case measure => simp [intOf]; omega
    · obtain rfl : k = ys.length := by omega
      obtain ⟨L, hL⟩ : ∃ L, q.length = L := ⟨_, rfl⟩
      obtain ⟨t, ht⟩ : ∃ t, str (q.take m.toNat) = t := ⟨_, rfl⟩
      have htz : t.size = min m.toNat L := by rw [← ht, str_size, List.length_take, hL]
      have hdl : (q.drop m.toNat).length = L - t.size := by rw [List.length_drop, hL]; omega
      have hLc : L ≤ 4096 := by obtain ⟨fr, A, h⟩ := HF.out; have := h.len; have := h.le; omega
      have hsub : ((L : Int) - (t.size : Int)) = ((L - t.size : Nat) : Int) := by omega
      have HL := Lib.hid hL
      have HT := Lib.hid ht
      have HTZ := Lib.hid htz
      have HDL := Lib.hid hdl
      have htzl : (t.size : Int) ≤ (L : Int) := by omega
      clear hL ht htz hdl hsub
      go_wp2_with (fail)
      refine (len_eq _ _ cap L q HL.out _ HF.out).mono ?_
      rintro e w' ⟨rfl, rfl⟩
      go_wp2_with (fail)
      refine (peek_eq _ _ cap q m t HT.out _ HF.out).mono ?_
      rintro e w5 ⟨rfl, hk5⟩
      have HF5 := Lib.hid (HF.out.keeps hk5 (by simp) (by simp))
      have HK5 := Lib.hid (HK.out.trans hk5)
      clear hk5
      go_wp2_with (fail)
      refine (len_eq _ _ cap L q HL.out _ HF5.out).mono ?_
      rintro e w' ⟨rfl, rfl⟩
      go_wp2_with (fail)
      refine (pop_eq _ _ cap q m t HT.out _ HF5.out).mono ?_
      rintro e w6 ⟨rfl, hf6, hk6⟩
      have HF6 := Lib.hid hf6
      have HK6 := Lib.hid (HK5.out.trans' hk6 (by simp; omega))
      clear hf6 hk6
      go_wp2_with (fail)
      obtain ⟨d, hd⟩ : ∃ d, L - t.size = d := ⟨_, rfl⟩
      refine (len_eq _ _ cap d _ (by rw [HDL.out, hd]) _ HF6.out).mono ?_
      rintro e w' ⟨rfl, rfl⟩
      have hb1 : ((d : Int) == (L : Int) - (t.size : Int)) = true := by simp; omega
      have htz := HTZ.out
      have hm : (m < 0 ∧ ((t.size : Int) == 0) = true) ∨ (0 ≤ m ∧ m ≤ (L : Int) ∧ ((t.size : Int) == m) = true) ∨ (0 ≤ m ∧ (L : Int) < m ∧ ((t.size : Int) == (L : Int)) = true) := by
        simp only [beq_iff_eq]; omega
      clear hd htz
      rcases hm with ⟨h1, h2⟩ | ⟨h1, h2, h3⟩ | ⟨h1, h2, h3⟩
      all_goals
        go_wp2
        go_ret
        exact ⟨rfl, HK6.out.below (Nat.le_refl _) (by simp)⟩
theorem walk (n : Int) (a : Option Addr) (xs : List Op1) (c : Nat) (m : Int) {W : World} (_ : (Lit.int .i64 n).wf = true) (hx : OpsArg W a xs) (_ : (Lit.int .i64 m).wf = true) (w : World) (hw : w = W) :
    Calls Try.prog 6 #[.int .i64 n, .slice a xs.length c, .int .i64 m] w fun e w' => e = .returned (.bool true) ∧ Below w.heap.size w w' := by
  subst hw
  by_cases h : n < 1 ∨ 4096 < n
  · exact walk_bad n a c xs m w h hx
  · obtain ⟨k, rfl⟩ : ∃ k : Nat, n = k := ⟨n.toNat, by omega⟩
    exact walk_good k a c xs m w (by omega) (by omega) hx

theorem own : ownKnob Try.prog.godebug = none := by kernel_rfl

set_option maxRecDepth 100000 in
theorem lifted (os : Os) (started : os.Started) (H : Type) (enc : TypeId × Value → H) :
    ReturnsInHanded {} Try.checked os 6 .any (Rows.fifoLooksSpec.pre6 enc Try.prog Try.f6 Rows.fifoLooksRow.domain false) (Rows.fifoLooksSpec.post enc Try.prog Try.f6 false true false false) := by
  refine returnsInHanded_of_change (C := Try.checked) own started (by kernel_rfl) Try.func6
    (ChangeSpec.witness6 (enc := enc) (C := Try.checked) false ⟨#[], #[.int .i64 0, .slice none 0 0, .int .i64 0], []⟩ 8 (by kernel_rfl) (by kernel_rfl) (by kernel_rfl) (by kernel_rfl)) ?_
  intro W base args ds gs before hval0 hW hcnd _
  have hval : ∀ (j : Nat) t v, Try.f6.params[j]? = some t → args[j]? = some v → Value.okWide Try.prog W .any base t v := hval0
  have hW' := hW
  obtain ⟨p, q, hA0, hV, rfl, hfz, hnd⟩ := hW
  have hA : DataW.TrodAll enc Try.prog W 0 (fun _ => true) true Try.f6.params.toList args.toList ds p := hA0
  rw [Try.params6] at hA hval
  obtain ⟨v0, vs0, d0, ds0, p0, q0, hargs, rfl, rfl, h0, r0⟩ := trodAll_cons hA
  obtain ⟨v1, vs1, d1, ds1, p1, q1, rfl, rfl, rfl, h1, r1⟩ := trodAll_cons r0
  obtain ⟨v2, vs2, d2, ds2, p2, q2, rfl, rfl, rfl, h2, r2⟩ := trodAll_cons r1
  obtain ⟨rfl, rfl, rfl⟩ := trodAll_nil r2
  obtain rfl : args = #[v0, v1, v2] := by cases args; simp_all
  obtain ⟨rfl, rfl⟩ := trodVars_none hV
  obtain ⟨a0, rfl, rfl, rfl, w0⟩ := open_int Try.underlying3 (hval 0 3 v0 rfl rfl) h0
  obtain ⟨a1, xs1, c1, rfl, w1⟩ := open_ops (hval 1 22 v1 rfl rfl) h1
  obtain ⟨a2, rfl, rfl, rfl, w2⟩ := open_int Try.underlying3 (hval 2 3 v2 rfl rfl) h2
  refine (walk a0 a1 xs1 c1 a2 w0 w1 w2 W rfl).mono fun e W' ⟨he, hb⟩ => ?_
  subst he
  exact ⟨_, rfl, law_post (by kernel_rfl) (by decide +kernel) rfl rfl Try.underlying4 hW' hb ⟨rfl, rfl, rfl⟩⟩

theorem over : Rows.fifoLooksRow.holds Try.pinned (OpenSpec.ofChange Rows.fifoLooksSpec) :=
  OpenClaim.holds_of_wide 6 Try.f6 rfl rfl rfl rfl rfl rfl rfl ⟨rfl, rfl, rfl, rfl, rfl⟩ rfl rfl rfl rfl rfl (by kernel_rfl) Try.func6 (by kernel_rfl)
    (of_decide_eq_true (by kernel_rfl)) (by unfold Func.isWrapper; first | (rw [if_pos (by decide +kernel)]; kernel_rfl) | (rw [if_neg (by decide +kernel)]; exact ⟨rfl, rfl⟩))
    (fun os started H enc _ => lifted os started H enc)

theorem proved : Rows.FifoLooksSaid := over
end Go.Proofs.Ythngchdfbcpciaa.fifoLooks
