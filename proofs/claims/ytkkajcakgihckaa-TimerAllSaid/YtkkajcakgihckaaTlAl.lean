/- The walk of TimerAll: at the last tick all keys are due, in order, and none is left; one that was cancelled is not -/
import Derived.Test.YtkkajcakgihckaaTlA
namespace Go.Proofs.Ytkkajcakgihckaa
open Go.RowKit Go.Shelf
attribute [local go_sem] Oper.semAt_some
attribute [local go_sem ↓] Go.wp_at_zero Go.wp_at_succ

set_option maxRecDepth 100000 in
set_option maxHeartbeats 4000000 in
theorem TimerAll_any (a : Option Addr) (xs : List Op1) (c : Nat) (key : Int) (w : World) (hx : OpsArg w a xs c) (hkey : (Lit.int .i64 key).wf = true) :
    Calls Try.prog 7 #[.slice a xs.length c, .int .i64 key] w fun e w' => e = .returned (.bool true) ∧ Keeps [] w w' := by
  have Wkey := Lib.hid hkey
  clear hkey
  have HX := Lib.hid (hx.take 90)
  have hm90 : (xs.take 90).length ≤ 90 := by rw [List.length_take]; omega
  have hSh := shown_any w
  have hF := fun W hW => few_any a xs c W (hx.keeps hW)
  obtain ⟨N, hN⟩ : ∃ N, xs.length = N := ⟨_, rfl⟩
  rw [hN] at hF
  obtain ⟨ops, hops⟩ : ∃ ops, xs.take 90 = ops := ⟨_, rfl⟩
  rw [hops] at HX hm90 hF
  obtain ⟨M, hM⟩ : ∃ M, ops.length = M := ⟨_, rfl⟩
  rw [hM] at hm90 hF
  have HM := Lib.hid hM
  have HF := Lib.hid hF
  rw [hN]
  clear hx hN hops hM hF
  go_enter Try.func7, Try.ntmps7
  go_wp2_with (go_at_call 9; refine hSh.mono ?_; rintro e w1 ⟨rfl, k1⟩; clear hSh; have hF := HF.out w1 k1; have hNw := own_new w w1 k1; clear k1)
  go_wp2_with (first
    | (go_at_call 10; refine hF.mono ?_; rintro e w2 ⟨rfl, rfl⟩; clear hF)
    | (go_at_call 11; refine hNw.mono ?_; rintro e w3 ⟨rfl, o3⟩; clear hNw; have O3 := Lib.hid o3; clear o3))
  obtain ⟨t, ht⟩ : ∃ t, w1.heap.size + 1 = t := ⟨_, rfl⟩
  rw [ht] at O3 ⊢
  clear ht
  go_loopw [7] (fun i wr => ∃ (k : Nat) (F : List Nat), k ≤ M ∧ i = .int .i64 k ∧ Hid (OwnF w wr F t k (runL (ops.take k)))) (fun i _ => M - (intOf i).toNat)
  case atStart => exact ⟨0, _, Nat.zero_le _, rfl, O3⟩
  case round =>
    obtain ⟨k, F, hk, rfl, HO⟩ := hrel
    by_cases hlt : k < M
    · have hk1 : k < ops.length := by rw [HM.out]; exact hlt
      obtain ⟨b, off, rfl, hb, hat⟩ := HX.out.2.2 (by omega)
      obtain ⟨h1, h2, h3⟩ := hat k hk1
      obtain ⟨x, hxk⟩ : ∃ x, ops[k] = x := ⟨_, rfl⟩
      rw [hxk] at h1 h2 h3
      have hwf : x.wf := HX.out.1 x (by rw [← hxk]; exact List.getElem_mem _)
      rw [← HO.out.k.cell hb (by simp)] at h1 h2 h3
      have i1 : (0 : Int) ≤ (k : Int) := by omega
      have i2 : (k : Int) < (M : Int) := by omega
      have hD := own_do HO.out x hwf (by omega)
      have hrun : runL (ops.take (k + 1)) = (doL (runL (ops.take k)) x).2 := by rw [runL_snoc hk1, hxk]
      rw [← hrun] at hD
      unfold Op1.val at hD
      clear hat hxk hwf hrun hk1 hb
      go_wp2_with (go_at_call 13; refine hD.mono ?_; rintro e w4 ⟨⟨v4, rfl, _⟩, F4, o4⟩; clear hD; have O4 := Lib.hid o4; clear o4)
      go_roundw
      case rel => exact ⟨k + 1, F4, by omega, by go_num, O4⟩
      case measure => simp [intOf]; omega
    · obtain rfl : k = M := by omega
      obtain ⟨L, hL⟩ : ∃ L, runL (ops.take k) = L := ⟨_, rfl⟩
      rw [hL] at HO
      have hn : k < 100 := by omega
      clear hL O3 HX HF HM hk hlt
      have hok := HO.out.good.ok
      have hlen := HO.out.good.le
      have HOK := Lib.hid hok
      clear hok
      obtain ⟨o, ho⟩ : ∃ o, findL L key = o := ⟨_, rfl⟩
      have hFi := own_find HO.out key o ho Wkey.out
      obtain ⟨ws, hws⟩ : ∃ ws, o.isSome = ws := ⟨_, rfl⟩
      obtain ⟨od, hod⟩ : ∃ od, o.getD 0 = od := ⟨_, rfl⟩
      rw [hws, hod] at hFi
      have hwsL : (findL L key).isSome = ws := by rw [ho]; exact hws
      obtain ⟨L2, hL2⟩ : ∃ L2, cancelL L key = L2 := ⟨_, rfl⟩
      have hcase : (ws = true ∧ L2.length + 1 = L.length) ∨ (ws = false ∧ L2.length = L.length) := by
        cases o with
        | none => right; refine ⟨by rw [← hws]; rfl, ?_⟩; rw [← hL2, cancelL_none ho]
        | some z => left; refine ⟨by rw [← hws]; rfl, ?_⟩; rw [← hL2]; exact cancelL_length HOK.out (by rw [ho]; simp)
      obtain ⟨n0, hn0⟩ : ∃ n0, L.length = n0 := ⟨_, rfl⟩
      obtain ⟨n1, hn1⟩ : ∃ n1, L2.length = n1 := ⟨_, rfl⟩
      rw [hn0, hn1] at hcase
      rw [hn0] at hlen
      have hda := due_all (HOK.out.cancel key)
      have hnk : key ∉ keysL (cancelL L key) := fun hm => by
        unfold keysL at hm
        obtain ⟨x, hx, e⟩ := List.mem_map.1 hm
        exact (mem_cancelL.1 hx).2 e
      rw [hL2] at hda hnk
      obtain ⟨ys, hys⟩ : ∃ ys, keysL L2 = ys := ⟨_, rfl⟩
      have hyl : ys.length = n1 := by rw [← hys, ← hn1]; unfold keysL; simp
      rw [hys] at hnk
      have hdk : keysL (dueL L2 1000000000000) = ys := by rw [hda.1, hys]
      have hkl : (keysL L).length = n0 := by unfold keysL; rw [List.length_map, hn0]
      have HWL := Lib.hid hwsL
      have HC := Lib.hid hcase
      have HL2 := Lib.hid hL2
      have HYS := Lib.hid hys
      have HDA := Lib.hid hda.2
      have HDK := Lib.hid hdk
      have HNK := Lib.hid hnk
      have HYL := Lib.hid hyl
      have HKL := Lib.hid hkl
      clear ho hws hod hwsL hL2 hcase hn0 hn1 hda hnk hys hyl hdk hkl
      go_wp2_with (go_at_call 20; refine hFi.mono ?_; rintro e w5 ⟨rfl, rfl⟩; clear hFi; have hK := own_keys HO.out _ rfl)
      refine hK.mono ?_
      rintro e w6 ⟨⟨v6, rfl, hv6⟩, o6, k6⟩
      obtain ⟨a6, c6, rfl⟩ := hv6.val
      rw [HKL.out]
      have hC := own_cancel o6 key ws HWL.out Wkey.out
      rw [HL2.out] at hC
      clear hK hv6 o6 k6
      go_wp2_with (go_at_call 23; refine hC.mono ?_; rintro e w7 ⟨rfl, o7, _⟩; clear hC; have hK := own_keys o7 ys HYS.out; have HI7 := Lib.hid o7.hi; clear o7)
      go_wp2_with (go_at_call 18; refine hK.mono ?_; rintro e w8 ⟨⟨v8, rfl, hv8⟩, o8, _⟩; clear hK; obtain ⟨a8, c8, rfl⟩ := hv8.val; have hD := own_due o8 1000000000000 ys HDK.out; rw [HDA.out] at hD; have HV8 := Lib.hid hv8; rw [HYL.out]; clear hv8 o8)
      go_wp2_with (go_at_call 21; refine hD.mono ?_; rintro e w9 ⟨⟨v9, rfl, hv9⟩, o9, k9⟩; clear hD; have HV8b := Lib.hid (HV8.out.keeps k9 HI7.out).ints; rw [HYL.out] at HV8b; have HV9 := Lib.hid hv9.ints; have hgi := getI hv9; obtain ⟨a9, c9, rfl, hc9⟩ := hgi; have HC9 := Lib.hid hc9; have O9 := Lib.hid o9; clear hv9 o9 k9 hc9)
      rw [HYL.out]
      go_loop [14] (fun i => ∃ j : Nat, j ≤ n1 ∧ i = .int .i64 j) (fun i => n1 - (intOf i).toNat)
      case atStart => exact ⟨0, Nat.zero_le _, rfl⟩
      case round =>
        obtain ⟨j, hj, rfl⟩ := hrel
        have hn64 : n1 ≤ 64 := by rcases HC.out with ⟨_, h⟩ | ⟨_, h⟩ <;> omega
        by_cases hjl : j < n1
        · obtain ⟨g, off, z, rfl, _, _, hz, hcz⟩ := HC9.out j (by rw [HYL.out]; exact hjl)
          have hzk : (z == key) = false := by
            simp only [beq_eq_false_iff_ne]
            rintro rfl
            exact HNK.out (List.mem_of_getElem? hz)
          have j1 : (0 : Int) ≤ (j : Int) := by omega
          have j2 : (j : Int) < (n1 : Int) := by omega
          clear hz
          go_wp2
          go_round
          case rel => exact ⟨j + 1, by omega, by go_num⟩
          case measure => simp [intOf]; omega
        · obtain rfl : j = n1 := by omega
          have hNx := own_next O9.out (0, 0, false) rfl
          go_wp2_with (go_at_call 15; refine hNx.mono ?_; rintro e w10 ⟨rfl, o10, k10⟩; clear hNx; have O10 := Lib.hid o10; have K10 := Lib.hid k10; clear o10 k10)
          have hI := rInts_any _ _ ys ys true (by simp) (by rw [HYL.out]; omega) w10 (HV8b.out.keeps K10.out) (HV9.out.keeps K10.out)
          rw [HYL.out] at hI
          have hbb : (ws == ws) = true := by simp
          go_wp2_with (fail)
          refine hI.mono ?_
          rintro e w11 ⟨rfl, k11⟩
          have hKy := own_keys (O10.out.keeps k11) [] rfl
          clear hI k11
          go_wp2_with (fail)
          refine hKy.mono ?_
          rintro e w12 ⟨⟨v12, rfl, hv12⟩, o12, _⟩
          obtain ⟨a12, c12, rfl⟩ := hv12.val
          have O12 := Lib.hid o12
          clear hKy hv12 o12
          rcases HC.out with ⟨rfl, hc⟩ | ⟨rfl, hc⟩
          · have hw1 : wrap64 ((n0 : Int) - 1) = (j : Int) := by rw [show ((n0 : Int) - 1) = (j : Int) by omega]; exact IntWalk.wrap64_in _ ⟨by omega, by omega⟩
            have hjj : ((j : Int) == (j : Int)) = true := by simp
            go_wp2
            go_ret
            exact ⟨rfl, O12.out.k⟩
          · subst hc
            have hjj : ((j : Int) == (j : Int)) = true := by simp
            go_wp2
            go_ret
            exact ⟨rfl, O12.out.k⟩
end Go.Proofs.Ytkkajcakgihckaa
