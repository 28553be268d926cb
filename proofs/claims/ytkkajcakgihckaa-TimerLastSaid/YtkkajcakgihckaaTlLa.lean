/- The walk of TimerLast: a key has the tick that it was set to last; others keep theirs -/
import Derived.Test.YtkkajcakgihckaaTlA
namespace Go.Proofs.Ytkkajcakgihckaa
open Go.RowKit Go.Shelf
attribute [local go_sem] Oper.semAt_some
attribute [local go_sem ↓] Go.wp_at_zero Go.wp_at_succ

set_option maxRecDepth 100000 in
set_option maxHeartbeats 4000000 in
theorem TimerLast_any (a : Option Addr) (xs : List Op1) (c : Nat) (key : Int) (at_ : Int) (other : Int) (w : World) (hx : OpsArg w a xs c) (hkey : (Lit.int .i64 key).wf = true) (hat_ : (Lit.int .i64 at_).wf = true) (hother : (Lit.int .i64 other).wf = true) :
    Calls Try.prog 6 #[.slice a xs.length c, .int .i64 key, .int .i64 at_, .int .i64 other] w fun e w' => e = .returned (.bool true) ∧ Keeps [] w w' := by
  have Wkey := Lib.hid hkey
  have Wat_ := Lib.hid hat_
  have Wother := Lib.hid hother
  clear hkey hat_ hother
  have HX := Lib.hid (hx.take 90)
  have hm90 : (xs.take 90).length ≤ 90 := by rw [List.length_take]; omega
  have hSh := shown_any w
  have hF := fun W hW => few_any a xs c W (hx.keeps hW)
  obtain ⟨N, hN⟩ : ∃ N, xs.length = N := ⟨_, rfl⟩
  rw [hN] at hF
  obtain ⟨ops, hops⟩ : ∃ ops, xs.take 90 = ops := ⟨_, rfl⟩
  rw [hops] at HX hm90 hF
  obtain ⟨M, hM⟩ : ∃ M, ops.length = M := ⟨_, rfl⟩
  rw [hM] at hm90 hF
  have HM := Lib.hid hM
  have HF := Lib.hid hF
  rw [hN]
  clear hx hN hops hM hF
  go_enter Try.func6, Try.ntmps6
  go_wp2_with (go_at_call 9; refine hSh.mono ?_; rintro e w1 ⟨rfl, k1⟩; clear hSh; have hF := HF.out w1 k1; have hNw := own_new w w1 k1; clear k1)
  go_wp2_with (first
    | (go_at_call 10; refine hF.mono ?_; rintro e w2 ⟨rfl, rfl⟩; clear hF)
    | (go_at_call 11; refine hNw.mono ?_; rintro e w3 ⟨rfl, o3⟩; clear hNw; have O3 := Lib.hid o3; clear o3))
  obtain ⟨t, ht⟩ : ∃ t, w1.heap.size + 1 = t := ⟨_, rfl⟩
  rw [ht] at O3 ⊢
  clear ht
  go_loopw [11] (fun i wr => ∃ (k : Nat) (F : List Nat), k ≤ M ∧ i = .int .i64 k ∧ Hid (OwnF w wr F t k (runL (ops.take k)))) (fun i _ => M - (intOf i).toNat)
  case atStart => exact ⟨0, _, Nat.zero_le _, rfl, O3⟩
  case round =>
    obtain ⟨k, F, hk, rfl, HO⟩ := hrel
    by_cases hlt : k < M
    · have hk1 : k < ops.length := by rw [HM.out]; exact hlt
      obtain ⟨b, off, rfl, hb, hat⟩ := HX.out.2.2 (by omega)
      obtain ⟨h1, h2, h3⟩ := hat k hk1
      obtain ⟨x, hxk⟩ : ∃ x, ops[k] = x := ⟨_, rfl⟩
      rw [hxk] at h1 h2 h3
      have hwf : x.wf := HX.out.1 x (by rw [← hxk]; exact List.getElem_mem _)
      rw [← HO.out.k.cell hb (by simp)] at h1 h2 h3
      have i1 : (0 : Int) ≤ (k : Int) := by omega
      have i2 : (k : Int) < (M : Int) := by omega
      have hD := own_do HO.out x hwf (by omega)
      have hrun : runL (ops.take (k + 1)) = (doL (runL (ops.take k)) x).2 := by rw [runL_snoc hk1, hxk]
      rw [← hrun] at hD
      unfold Op1.val at hD
      clear hat hxk hwf hrun hk1 hb
      go_wp2_with (go_at_call 13; refine hD.mono ?_; rintro e w4 ⟨⟨v4, rfl, _⟩, F4, o4⟩; clear hD; have O4 := Lib.hid o4; clear o4)
      go_roundw
      case rel => exact ⟨k + 1, F4, by omega, by go_num, O4⟩
      case measure => simp [intOf]; omega
    · obtain rfl : k = M := by omega
      obtain ⟨L, hL⟩ : ∃ L, runL (ops.take k) = L := ⟨_, rfl⟩
      rw [hL] at HO
      have hn : k < 100 := by omega
      clear hL O3 HX HF HM hk hlt
      have hok := HO.out.good.ok
      have hlen := HO.out.good.le
      have HOK := Lib.hid hok
      clear hok
      obtain ⟨o, ho⟩ : ∃ o, findL L other = o := ⟨_, rfl⟩
      have hFi := own_find HO.out other o ho Wother.out
      obtain ⟨ws, hws⟩ : ∃ ws, o.isSome = ws := ⟨_, rfl⟩
      obtain ⟨od, hod⟩ : ∃ od, o.getD 0 = od := ⟨_, rfl⟩
      obtain ⟨q, hq⟩ : ∃ q, findL L key = q := ⟨_, rfl⟩
      obtain ⟨qs, hqs⟩ : ∃ qs, q.isSome = qs := ⟨_, rfl⟩
      obtain ⟨qd, hqd⟩ : ∃ qd, q.getD 0 = qd := ⟨_, rfl⟩
      rw [hws, hod] at hFi
      obtain ⟨n0, hn0⟩ : ∃ n0, L.length = n0 := ⟨_, rfl⟩
      have hkl : (keysL L).length = n0 := by unfold keysL; rw [List.length_map, hn0]
      rw [hn0] at hlen
      have HKL := Lib.hid hkl
      have HQ := Lib.hid hq
      have HQS := Lib.hid hqs
      have HQD := Lib.hid hqd
      have HWS := Lib.hid hws
      have HOD := Lib.hid hod
      have HOO := Lib.hid ho
      have HN0 := Lib.hid hn0
      clear ho hws hod hq hqs hqd hn0 hkl
      go_wp2_with (go_at_call 20; refine hFi.mono ?_; rintro e w5 ⟨rfl, rfl⟩; clear hFi; have hK := own_keys HO.out _ rfl)
      refine hK.mono ?_
      rintro e w6 ⟨⟨v6, rfl, hv6⟩, o6, k6⟩
      obtain ⟨a6, c6, rfl⟩ := hv6.val
      rw [HKL.out]
      have hFi := own_find o6 key q HQ.out Wkey.out
      rw [HQS.out, HQD.out] at hFi
      have O6 := Lib.hid o6
      clear hK hv6 o6 k6
      have hS := own_set O6.out key at_ (by omega)
      go_wp2_with (go_at_call 20; refine hFi.mono ?_; rintro e w7 ⟨rfl, rfl⟩; clear hFi)
      have hsc := set_cases L key at_ HO.out.good
      rw [HN0.out, HQ.out, HQS.out] at hsc
      rcases hsc with ⟨hs, her⟩ | ⟨hg, hs⟩
      · -- refused
        obtain ⟨er, hs2⟩ : ∃ er, setA L key at_ = (er, L) := hs
        rw [hs2] at hS her
        dsimp only at her
        have hen : (er != 0) = true := by rcases her with h | ⟨h, _⟩ <;> (rw [h]; rfl)
        have HER := Lib.hid her
        clear hs2 her
        go_wp2_with (go_at_call 22; refine hS.mono ?_; rintro e w8 ⟨rfl, ⟨F8, o8⟩, _⟩; clear hS; have hFk := own_find o8 key q HQ.out Wkey.out; have hFo := own_find o8 other o HOO.out Wother.out; have hKy := own_keys o8 _ rfl; rw [HQS.out, HQD.out] at hFk; rw [HWS.out, HOD.out] at hFo; clear o8)
        go_wp2_with (first
          | (go_at_call 20; refine hFk.mono ?_; rintro e w9 ⟨rfl, rfl⟩; clear hFk)
          | (go_at_call 20; refine hFo.mono ?_; rintro e w9 ⟨rfl, rfl⟩; clear hFo))
        have hbb : (ws == ws) = true := by simp
        have hoo : (od == od) = true := by simp
        have hnn : ((n0 : Int) == (n0 : Int)) = true := by simp
        refine hKy.mono ?_
        rintro e w10 ⟨⟨v10, rfl, hv10⟩, o10, _⟩
        obtain ⟨a10, c10, rfl⟩ := hv10.val
        rw [HKL.out]
        have O10 := Lib.hid o10
        clear hKy hv10 o10
        rcases HER.out with rfl | ⟨rfl, rfl, hn64⟩
        · go_wp2
          go_ret
          exact ⟨rfl, O10.out.k⟩
        · obtain rfl : n0 = 64 := hn64
          go_wp2
          go_ret
          exact ⟨rfl, O10.out.k⟩
      · -- done
        rw [hs] at hS
        have hf1 := find_set HOK.out hg
        have hsl := setL_length HOK.out key at_
        rw [HN0.out, HQ.out] at hsl
        have hfo : other = key ∨ findL (setL L key at_) other = o := by
          by_cases e : other = key
          · exact .inl e
          · exact .inr ((find_set_other HOK.out hg e).trans HOO.out)
        obtain ⟨o2, ho2⟩ : ∃ o2, findL (setL L key at_) other = o2 := ⟨_, rfl⟩
        rw [ho2] at hfo
        obtain ⟨ws2, hws2⟩ : ∃ ws, o2.isSome = ws := ⟨_, rfl⟩
        obtain ⟨od2, hod2⟩ : ∃ od, o2.getD 0 = od := ⟨_, rfl⟩
        obtain ⟨n2, hn2⟩ : ∃ n2, (setL L key at_).length = n2 := ⟨_, rfl⟩
        have hkl2 : (keysL (setL L key at_)).length = n2 := by unfold keysL; rw [List.length_map, hn2]
        have hcn : (qs = true ∧ n2 = n0) ∨ (qs = false ∧ n2 = n0 + 1) := by
          rw [hn2] at hsl
          have := HQS.out
          cases q with
          | none => right; refine ⟨by rw [← this]; rfl, by rw [hsl]; rfl⟩
          | some z => left; refine ⟨by rw [← this]; rfl, by rw [hsl]; rfl⟩
        have hco : other = key ∨ (od = od2 ∧ ws = ws2) := hfo.imp id (fun e => by
          subst e
          exact ⟨by rw [← hod2, ← HOD.out], by rw [← hws2, ← HWS.out]⟩)
        have HCN := Lib.hid hcn
        have HCO := Lib.hid hco
        have HKL2 := Lib.hid hkl2
        have HF1 := Lib.hid hf1
        have HO2 := Lib.hid ho2
        have HWS2 := Lib.hid hws2
        have HOD2 := Lib.hid hod2
        obtain ⟨L2, hL2⟩ : ∃ L2, setL L key at_ = L2 := ⟨_, rfl⟩
        rw [hL2] at hS HKL2 HF1 HO2
        clear hs hg hf1 hsl hfo ho2 hws2 hod2 hn2 hkl2 hcn hco hL2
        go_wp2_with (go_at_call 22; refine hS.mono ?_; rintro e w8 ⟨rfl, ⟨F8, o8⟩, _⟩; clear hS; have hFk := own_find o8 key (some at_) HF1.out Wkey.out; have hFo := own_find o8 other o2 HO2.out Wother.out; have hKy := own_keys o8 _ rfl; rw [HWS2.out, HOD2.out] at hFo; clear o8)
        have hat : (at_ == at_) = true := by simp
        have hfin : ∀ (W : World), (∃ (F' : List Nat), OwnF w W F' t (k + 1) L2) → Keeps [] w W := fun W h => by obtain ⟨F', h1⟩ := h; exact h1.k
        rcases HCN.out with ⟨rfl, rfl⟩ | ⟨rfl, rfl⟩
        all_goals
          by_cases hok2 : other = key
          · subst hok2
            have hbb : (other == other) = true := by simp
            go_wp2_with (first
              | (go_at_call 20; refine hFk.mono ?_; rintro e w9 ⟨rfl, rfl⟩; clear hFk)
              | (go_at_call 20; refine hFo.mono ?_; rintro e w9 ⟨rfl, rfl⟩; clear hFo))
            refine hKy.mono ?_
            rintro e w10 ⟨⟨v10, rfl, hv10⟩, o10, _⟩
            obtain ⟨a10, c10, rfl⟩ := hv10.val
            rw [HKL2.out]
            have HFN := Lib.hid (hfin _ ⟨_, o10⟩)
            clear hKy hv10 o10 hfin
            go_wp2
            go_ret
            exact ⟨rfl, HFN.out⟩
          · obtain ⟨rfl, rfl⟩ := HCO.out.resolve_left hok2
            have hbb : (other == key) = false := by simpa using hok2
            have hww : (ws == ws) = true := by simp
            have hoo : (od == od) = true := by simp
            clear hok2
            go_wp2_with (first
              | (go_at_call 20; refine hFk.mono ?_; rintro e w9 ⟨rfl, rfl⟩; clear hFk)
              | (go_at_call 20; refine hFo.mono ?_; rintro e w9 ⟨rfl, rfl⟩; clear hFo))
            refine hKy.mono ?_
            rintro e w10 ⟨⟨v10, rfl, hv10⟩, o10, _⟩
            obtain ⟨a10, c10, rfl⟩ := hv10.val
            rw [HKL2.out]
            have HFN := Lib.hid (hfin _ ⟨_, o10⟩)
            clear hKy hv10 o10 hfin
            go_wp2
            go_ret
            exact ⟨rfl, HFN.out⟩
end Go.Proofs.Ytkkajcakgihckaa
