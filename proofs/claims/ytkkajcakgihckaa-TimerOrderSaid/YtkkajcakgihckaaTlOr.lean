/- The walk of TimerOrder: keys stand by their ticks, those of one tick by the keys, each once -/
import Derived.Test.YtkkajcakgihckaaTlA
namespace Go.Proofs.Ytkkajcakgihckaa
open Go.RowKit Go.Shelf
attribute [local go_sem] Oper.semAt_some
attribute [local go_sem ↓] Go.wp_at_zero Go.wp_at_succ

set_option maxRecDepth 100000 in
set_option maxHeartbeats 4000000 in
theorem TimerOrder_any (a : Option Addr) (xs : List Op1) (c : Nat)  (w : World) (hx : OpsArg w a xs c)  :
    Calls Try.prog 4 #[.slice a xs.length c] w fun e w' => e = .returned (.bool true) ∧ Keeps [] w w' := by
  have HX := Lib.hid (hx.take 90)
  have hm90 : (xs.take 90).length ≤ 90 := by rw [List.length_take]; omega
  have hSh := shown_any w
  have hF := fun W hW => few_any a xs c W (hx.keeps hW)
  obtain ⟨N, hN⟩ : ∃ N, xs.length = N := ⟨_, rfl⟩
  rw [hN] at hF
  obtain ⟨ops, hops⟩ : ∃ ops, xs.take 90 = ops := ⟨_, rfl⟩
  rw [hops] at HX hm90 hF
  obtain ⟨M, hM⟩ : ∃ M, ops.length = M := ⟨_, rfl⟩
  rw [hM] at hm90 hF
  have HM := Lib.hid hM
  have HF := Lib.hid hF
  rw [hN]
  clear hx hN hops hM hF
  go_enter Try.func4, Try.ntmps4
  go_wp2_with (go_at_call 9; refine hSh.mono ?_; rintro e w1 ⟨rfl, k1⟩; clear hSh; have hF := HF.out w1 k1; have hNw := own_new w w1 k1; clear k1)
  go_wp2_with (first
    | (go_at_call 10; refine hF.mono ?_; rintro e w2 ⟨rfl, rfl⟩; clear hF)
    | (go_at_call 11; refine hNw.mono ?_; rintro e w3 ⟨rfl, o3⟩; clear hNw; have O3 := Lib.hid o3; clear o3))
  obtain ⟨t, ht⟩ : ∃ t, w1.heap.size + 1 = t := ⟨_, rfl⟩
  rw [ht] at O3 ⊢
  clear ht
  go_loopw [5] (fun i wr => ∃ (k : Nat) (F : List Nat), k ≤ M ∧ i = .int .i64 k ∧ Hid (OwnF w wr F t k (runL (ops.take k)))) (fun i _ => M - (intOf i).toNat)
  case atStart => exact ⟨0, _, Nat.zero_le _, rfl, O3⟩
  case round =>
    obtain ⟨k, F, hk, rfl, HO⟩ := hrel
    by_cases hlt : k < M
    · have hk1 : k < ops.length := by rw [HM.out]; exact hlt
      obtain ⟨b, off, rfl, hb, hat⟩ := HX.out.2.2 (by omega)
      obtain ⟨h1, h2, h3⟩ := hat k hk1
      obtain ⟨x, hxk⟩ : ∃ x, ops[k] = x := ⟨_, rfl⟩
      rw [hxk] at h1 h2 h3
      have hwf : x.wf := HX.out.1 x (by rw [← hxk]; exact List.getElem_mem _)
      rw [← HO.out.k.cell hb (by simp)] at h1 h2 h3
      have i1 : (0 : Int) ≤ (k : Int) := by omega
      have i2 : (k : Int) < (M : Int) := by omega
      have hD := own_do HO.out x hwf (by omega)
      have hrun : runL (ops.take (k + 1)) = (doL (runL (ops.take k)) x).2 := by rw [runL_snoc hk1, hxk]
      rw [← hrun] at hD
      unfold Op1.val at hD
      clear hat hxk hwf hrun hk1 hb
      go_wp2_with (go_at_call 13; refine hD.mono ?_; rintro e w4 ⟨⟨v4, rfl, _⟩, F4, o4⟩; clear hD; have O4 := Lib.hid o4; clear o4)
      go_roundw
      case rel => exact ⟨k + 1, F4, by omega, by go_num, O4⟩
      case measure => simp [intOf]; omega
    · obtain rfl : k = M := by omega
      obtain ⟨L, hL⟩ : ∃ L, runL (ops.take k) = L := ⟨_, rfl⟩
      rw [hL] at HO
      have hn : k < 100 := by omega
      clear hL O3 HX HF HM hk hlt
      have hok := HO.out.good.ok
      have hlen := HO.out.good.le
      have HOK := Lib.hid hok
      clear hok
      obtain ⟨ys, hys⟩ : ∃ ys, keysL L = ys := ⟨_, rfl⟩
      obtain ⟨n0, hn0⟩ : ∃ n0, L.length = n0 := ⟨_, rfl⟩
      have hyl : ys.length = n0 := by rw [← hys, ← hn0]; unfold keysL; simp
      have hK := own_keys HO.out ys hys
      rw [hn0] at hlen
      have HYS := Lib.hid hys
      have HYL := Lib.hid hyl
      have HN0 := Lib.hid hn0
      clear hys hyl hn0
      go_wp2_with (go_at_call 18; refine hK.mono ?_; rintro e w5 ⟨⟨v5, rfl, hv5⟩, o5, _⟩; clear hK; have hgi := getI hv5; obtain ⟨a5, c5, rfl, hc5⟩ := hgi; have HC5 := Lib.hid hc5; have O5 := Lib.hid o5; clear hc5 hv5 o5)
      rw [HYL.out]
      go_loopw [7, 8] (fun la i wr2 => ∃ j : Nat, ∃ z : Int, j ≤ n0 ∧ la = .int .i64 z ∧ i = .int .i64 j ∧ Hid ((j = 0 → z = -1) ∧ ∀ m p, j = m + 1 → L[m]? = some p → z = p.at_) ∧ Hid (Keeps [] w5 wr2)) (fun _ i _ => n0 - (intOf i).toNat)
      case atStart => exact ⟨0, -1, Nat.zero_le _, rfl, rfl, Lib.hid ⟨fun _ => rfl, fun m p e _ => by omega⟩, Lib.hid (Keeps.refl _ _)⟩
      case round =>
        obtain ⟨j, z, hj, rfl, rfl, HZ, HK⟩ := hrel
        by_cases hjl : j < n0
        · have hjL : j < L.length := by rw [HN0.out]; exact hjl
          obtain ⟨g, off, x, rfl, hb0, hg, hx, hcx⟩ := HC5.out j (by rw [HYL.out]; exact hjl)
          obtain ⟨y, hy2⟩ : ∃ y, L[j]? = some y := ⟨_, List.getElem?_eq_getElem hjL⟩
          have hxk : x = y.key := by
            have h1 : ys[j]? = some y.key := by rw [← HYS.out]; unfold keysL; rw [List.getElem?_map, hy2]; rfl
            rw [hx] at h1
            injection h1
          subst hxk
          obtain ⟨hat1, hat2⟩ := order_at HOK.out hy2
          rw [← HK.out.cell (p := ⟨g, off + j, none⟩) hg (by simp)] at hcx
          have hwfk : (Lit.int .i64 y.key).wf = true := (goodK_wf (HOK.out.in_ y (List.mem_of_getElem? hy2))).1
          have hFi := own_find (O5.out.keeps HK.out) y.key (some y.at_) hat1 hwfk
          have j1 : (0 : Int) ≤ (j : Int) := by omega
          have j2 : (j : Int) < (n0 : Int) := by omega
          have HA2 := Lib.hid hat2
          have HY2 := Lib.hid hy2
          have HFIN : Hid ((j + 1 = 0 → y.at_ = -1) ∧ ∀ m p, j + 1 = m + 1 → L[m]? = some p → y.at_ = p.at_) := Lib.hid ⟨fun e => by omega, fun m p e h => by
            obtain rfl : m = j := by omega
            rw [hy2] at h
            injection h with h
            rw [h]⟩
          clear hat1 hat2 hy2 hx hwfk hb0 hjL
          rcases Nat.eq_zero_or_pos j with rfl | h0
          · obtain rfl : z = -1 := HZ.out.1 rfl
            rw [Nat.add_zero] at hcx
            have hc1 : decide (y.at_ < -1) = false := decide_eq_false (by have := HA2.out; omega)
            have hc2 : (y.at_ == -1) = false := by have := HA2.out; simp; omega
            go_wp2_with (go_at_call 20; refine hFi.mono ?_; rintro e w9 ⟨rfl, rfl⟩; clear hFi)
            go_quiet (fail)
            go_wp2
            go_roundw
            case rel => exact ⟨1, y.at_, by omega, rfl, by go_num, HFIN, Lib.hid (HK.out.drewN _)⟩
            case measure => simp [intOf]; omega
          · have hpL : j - 1 < L.length := by rw [HN0.out]; omega
            obtain ⟨p, hp2⟩ : ∃ p, L[j - 1]? = some p := ⟨_, List.getElem?_eq_getElem hpL⟩
            obtain rfl : z = p.at_ := HZ.out.2 (j - 1) p (by omega) hp2
            have hon := order_next HOK.out (i := j - 1) hp2 (by rw [show j - 1 + 1 = j by omega]; exact HY2.out)
            obtain ⟨g', off', x', hge, _, hg', hx', hcx'⟩ := HC5.out (j - 1) (by rw [HYL.out]; omega)
            injection hge with hge
            injection hge with e1 e2
            subst e1 e2
            have hxk' : x' = p.key := by
              have h1 : ys[j - 1]? = some p.key := by rw [← HYS.out]; unfold keysL; rw [List.getElem?_map, hp2]; rfl
              rw [hx'] at h1
              injection h1
            subst hxk'
            rw [← HK.out.cell (p := ⟨g, off + (j - 1), none⟩) hg' (by simp)] at hcx'
            have hw1 : wrap64 ((j : Int) - 1) = ((j - 1 : Nat) : Int) := by rw [show ((j : Int) - 1) = ((j - 1 : Nat) : Int) by omega]; exact IntWalk.wrap64_in _ ⟨by omega, by omega⟩
            have hw1' : IntKind.i64.wrap ((j : Int) - 1) = ((j - 1 : Nat) : Int) := by rw [IntWalk.i64_in _ (by omega)]; omega
            obtain ⟨m, hm⟩ : ∃ m, j - 1 = m := ⟨_, rfl⟩
            rw [hm] at hcx' hw1 hw1'
            have m1 : (0 : Int) ≤ (m : Int) := by omega
            have m2 : (m : Int) < (n0 : Int) := by omega
            have HMM := Lib.hid hm
            clear hm h0
            have hc1 : decide (y.at_ < p.at_) = false := decide_eq_false (by have := hon.1; omega)
            by_cases he : y.at_ = p.at_
            · have hc2 : (y.at_ == p.at_) = true := by simpa using he
              have hc3 : decide (y.key ≤ p.key) = false := decide_eq_false (by have := hon.2 he.symm; omega)
              clear hon he hp2 hx' hpL
              go_wp2_with (go_at_call 20; refine hFi.mono ?_; rintro e w9 ⟨rfl, rfl⟩; clear hFi)
              go_quiet (fail)
              go_wp2
              go_roundw
              case rel => exact ⟨j + 1, y.at_, by omega, rfl, by go_num, HFIN, Lib.hid (HK.out.drewN _)⟩
              case measure => simp [intOf]; omega
            · have hc2 : (y.at_ == p.at_) = false := by simpa using he
              clear hon he hp2 hx' hpL
              go_wp2_with (go_at_call 20; refine hFi.mono ?_; rintro e w9 ⟨rfl, rfl⟩; clear hFi)
              go_quiet (fail)
              go_wp2
              go_roundw
              case rel => exact ⟨j + 1, y.at_, by omega, rfl, by go_num, HFIN, Lib.hid (HK.out.drewN _)⟩
              case measure => simp [intOf]; omega
        · obtain rfl : j = n0 := by omega
          have hle : (j : Int) ≤ 64 := by omega
          go_wp2
          go_ret
          exact ⟨rfl, (O5.out.keeps HK.out).k⟩
end Go.Proofs.Ytkkajcakgihckaa
