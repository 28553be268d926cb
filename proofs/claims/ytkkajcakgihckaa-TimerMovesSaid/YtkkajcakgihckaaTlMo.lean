/- The walk of TimerMoves: a key that is set is due at its tick, and not one ahead of it -/
import Derived.Test.YtkkajcakgihckaaTlA
namespace Go.Proofs.Ytkkajcakgihckaa
open Go.RowKit Go.Shelf
attribute [local go_sem] Oper.semAt_some
attribute [local go_sem ↓] Go.wp_at_zero Go.wp_at_succ

set_option maxRecDepth 100000 in
set_option maxHeartbeats 4000000 in
theorem TimerMoves_any (a : Option Addr) (xs : List Op1) (c : Nat) (key : Int) (at_ : Int) (w : World) (hx : OpsArg w a xs c) (hkey : (Lit.int .i64 key).wf = true) (hat_ : (Lit.int .i64 at_).wf = true) :
    Calls Try.prog 8 #[.slice a xs.length c, .int .i64 key, .int .i64 at_] w fun e w' => e = .returned (.bool true) ∧ Keeps [] w w' := by
  have Wkey := Lib.hid hkey
  have Wat_ := Lib.hid hat_
  clear hkey hat_
  have HX := Lib.hid (hx.take 90)
  have hm90 : (xs.take 90).length ≤ 90 := by rw [List.length_take]; omega
  have hSh := shown_any w
  have hF := fun W hW => few_any a xs c W (hx.keeps hW)
  obtain ⟨N, hN⟩ : ∃ N, xs.length = N := ⟨_, rfl⟩
  rw [hN] at hF
  obtain ⟨ops, hops⟩ : ∃ ops, xs.take 90 = ops := ⟨_, rfl⟩
  rw [hops] at HX hm90 hF
  obtain ⟨M, hM⟩ : ∃ M, ops.length = M := ⟨_, rfl⟩
  rw [hM] at hm90 hF
  have HM := Lib.hid hM
  have HF := Lib.hid hF
  rw [hN]
  clear hx hN hops hM hF
  go_enter Try.func8, Try.ntmps8
  go_wp2_with (go_at_call 9; refine hSh.mono ?_; rintro e w1 ⟨rfl, k1⟩; clear hSh; have hF := HF.out w1 k1; have hNw := own_new w w1 k1; clear k1)
  go_wp2_with (first
    | (go_at_call 10; refine hF.mono ?_; rintro e w2 ⟨rfl, rfl⟩; clear hF)
    | (go_at_call 11; refine hNw.mono ?_; rintro e w3 ⟨rfl, o3⟩; clear hNw; have O3 := Lib.hid o3; clear o3))
  obtain ⟨t, ht⟩ : ∃ t, w1.heap.size + 1 = t := ⟨_, rfl⟩
  rw [ht] at O3 ⊢
  clear ht
  go_loopw [9] (fun i wr => ∃ (k : Nat) (F : List Nat), k ≤ M ∧ i = .int .i64 k ∧ Hid (OwnF w wr F t k (runL (ops.take k)))) (fun i _ => M - (intOf i).toNat)
  case atStart => exact ⟨0, _, Nat.zero_le _, rfl, O3⟩
  case round =>
    obtain ⟨k, F, hk, rfl, HO⟩ := hrel
    by_cases hlt : k < M
    · have hk1 : k < ops.length := by rw [HM.out]; exact hlt
      obtain ⟨b, off, rfl, hb, hat⟩ := HX.out.2.2 (by omega)
      obtain ⟨h1, h2, h3⟩ := hat k hk1
      obtain ⟨x, hxk⟩ : ∃ x, ops[k] = x := ⟨_, rfl⟩
      rw [hxk] at h1 h2 h3
      have hwf : x.wf := HX.out.1 x (by rw [← hxk]; exact List.getElem_mem _)
      rw [← HO.out.k.cell hb (by simp)] at h1 h2 h3
      have i1 : (0 : Int) ≤ (k : Int) := by omega
      have i2 : (k : Int) < (M : Int) := by omega
      have hD := own_do HO.out x hwf (by omega)
      have hrun : runL (ops.take (k + 1)) = (doL (runL (ops.take k)) x).2 := by rw [runL_snoc hk1, hxk]
      rw [← hrun] at hD
      unfold Op1.val at hD
      clear hat hxk hwf hrun hk1 hb
      go_wp2_with (go_at_call 13; refine hD.mono ?_; rintro e w4 ⟨⟨v4, rfl, _⟩, F4, o4⟩; clear hD; have O4 := Lib.hid o4; clear o4)
      go_roundw
      case rel => exact ⟨k + 1, F4, by omega, by go_num, O4⟩
      case measure => simp [intOf]; omega
    · obtain rfl : k = M := by omega
      obtain ⟨L, hL⟩ : ∃ L, runL (ops.take k) = L := ⟨_, rfl⟩
      rw [hL] at HO
      have hn : k < 100 := by omega
      clear hL O3 HX HF HM hk hlt
      have hok := HO.out.good.ok
      have hlen := HO.out.good.le
      have HOK := Lib.hid hok
      clear hok
      have hS := own_set HO.out key at_ (by omega)
      go_wp2_with (fail)
      refine hS.mono ?_
      clear hS
      rintro e w5 ⟨rfl, ⟨F5, o5⟩, _⟩
      obtain ⟨er, her⟩ : ∃ er, (setA L key at_).1 = er := ⟨_, rfl⟩
      rw [her]
      have HER := Lib.hid her
      have O5 := Lib.hid o5
      clear her o5
      by_cases h0 : er = 0
      rotate_left
      · have hne : (er != 0) = true := by simpa using h0
        clear h0
        go_wp2
        go_ret
        exact ⟨rfl, O5.out.k⟩
      · subst h0
        obtain ⟨hg, hL2⟩ := set_ok HER.out
        rw [hL2] at O5
        have hgb := good_at hg
        have hw1 : wrap64 (at_ - 1) = at_ - 1 := IntWalk.wrap64_in _ ⟨by omega, by omega⟩
        have HE := Lib.hid (moves_early HOK.out hg)
        have HDU := Lib.hid (moves_due HOK.out hg)
        have HLF := Lib.hid (moves_left HOK.out hg)
        have hl2 := O5.out.good.le
        have hl3 : (leftL (setL L key at_) (at_ - 1)).length ≤ 64 := Nat.le_trans (List.dropWhile_sublist _).length_le hl2
        obtain ⟨ys1, hy1⟩ : ∃ ys, keysL (dueL (setL L key at_) (at_ - 1)) = ys := ⟨_, rfl⟩
        have HL1 : Hid (ys1.length ≤ 64) := Lib.hid (by rw [← hy1]; exact due_len hl2 _)
        rw [hy1] at HE
        have hD := own_due O5.out (at_ - 1) ys1 hy1
        obtain ⟨L3, hL3⟩ : ∃ L3, leftL (setL L key at_) (at_ - 1) = L3 := ⟨_, rfl⟩
        have HOK3 : Hid (TiOk L3) := Lib.hid (by rw [← hL3]; exact (HOK.out.set hg).left _)
        rw [hL3] at hD HDU HLF hl3
        clear hgb hg hL2 HER hL3 hy1 hl2
        go_wp2_with (go_at_call 21; refine hD.mono ?_; rintro e w6 ⟨⟨v6, rfl, hv6⟩, o6, _⟩; clear hD; have hgi := getI hv6; obtain ⟨a6, c6, rfl, hc6⟩ := hgi; have HC6 := Lib.hid hc6; have O6 := Lib.hid o6; clear hc6 hv6 o6)
        obtain ⟨A1, hA1⟩ : ∃ A1, ys1.length = A1 := ⟨_, rfl⟩
        rw [hA1] at HC6 HL1 ⊢
        clear hA1
        go_loop [10, 12] (fun e i => ∃ j : Nat, j ≤ A1 ∧ e = .bool false ∧ i = .int .i64 j) (fun _ i => A1 - (intOf i).toNat)
        case atStart => exact ⟨0, Nat.zero_le _, rfl, rfl⟩
        case round =>
          obtain ⟨j, hj, rfl, rfl⟩ := hrel
          have hA64 := HL1.out
          by_cases hjl : j < A1
          · obtain ⟨g, off, z, rfl, _, _, hz, hcz⟩ := HC6.out j hjl
            have hzk : (z == key) = false := by
              simp only [beq_eq_false_iff_ne]
              rintro rfl
              exact HE.out (List.mem_of_getElem? hz)
            have j1 : (0 : Int) ≤ (j : Int) := by omega
            have j2 : (j : Int) < (A1 : Int) := by omega
            clear hz
            go_wp2
            go_round
            case rel => exact ⟨j + 1, by omega, rfl, by go_num⟩
            case measure => simp [intOf]; omega
          · obtain rfl : j = A1 := by omega
            obtain ⟨ys2, hy2⟩ : ∃ ys, keysL (dueL L3 at_) = ys := ⟨_, rfl⟩
            have HND : Hid (ys2.Nodup) := Lib.hid (by rw [← hy2]; exact due_nodup HOK3.out _)
            have HL2 : Hid (ys2.length ≤ 64) := Lib.hid (by rw [← hy2]; exact due_len hl3 _)
            rw [hy2] at HDU
            have hD := own_due O6.out at_ ys2 hy2
            clear hy2 hl3
            go_wp2_with (go_at_call 21; refine hD.mono ?_; rintro e w7 ⟨⟨v7, rfl, hv7⟩, o7, _⟩; clear hD; have hgi := getI hv7; obtain ⟨a7, c7, rfl, hc7⟩ := hgi; have HC7 := Lib.hid hc7; have O7 := Lib.hid o7; clear hc7 hv7 o7)
            obtain ⟨A2, hA2⟩ : ∃ A2, ys2.length = A2 := ⟨_, rfl⟩
            have HA2 := Lib.hid hA2
            rw [hA2] at HC7 HL2 ⊢
            clear hA2
            go_loop [13, 15] (fun e i => ∃ j m : Nat, j ≤ A2 ∧ m ≤ j ∧ e = .int .i64 m ∧ i = .int .i64 j ∧ Hid ((ys2.take j).count key = m)) (fun _ i => A2 - (intOf i).toNat)
            case atStart => exact ⟨0, 0, Nat.zero_le _, Nat.le_refl _, rfl, rfl, Lib.hid (by simp)⟩
            case round =>
              obtain ⟨j, m, hj, hmj, rfl, rfl, HC⟩ := hrel
              have hA64 := HL2.out
              by_cases hjl : j < A2
              · obtain ⟨g, off, z, rfl, _, _, hz, hcz⟩ := HC7.out j hjl
                have hcs := count_snoc hz key
                have j1 : (0 : Int) ≤ (j : Int) := by omega
                have j2 : (j : Int) < (A2 : Int) := by omega
                by_cases hzk : z = key
                · subst hzk
                  rw [if_pos rfl, HC.out] at hcs
                  have HCS := Lib.hid hcs
                  clear hz hcs
                  go_wp2
                  go_round
                  case rel => exact ⟨j + 1, m + 1, by omega, by omega, by go_num, by go_num, HCS⟩
                  case measure => simp [intOf]; omega
                · rw [if_neg hzk, HC.out] at hcs
                  have HCS := Lib.hid hcs
                  have hzk2 : (z == key) = false := by simpa using hzk
                  clear hz hcs hzk
                  go_wp2
                  go_round
                  case rel => exact ⟨j + 1, m, by omega, by omega, rfl, by go_num, HCS⟩
                  case measure => simp [intOf]; omega
              · obtain rfl : j = A2 := by omega
                have hm1 : m = 1 := by
                  have h1 := HC.out
                  rw [List.take_of_length_le (by rw [HA2.out]; exact Nat.le_refl _)] at h1
                  rw [← h1]
                  exact count_one HND.out HDU.out
                subst hm1
                have hFi := own_find O7.out key none HLF.out Wkey.out
                go_wp2_with (go_at_call 20; refine hFi.mono ?_; rintro e w8 ⟨rfl, rfl⟩; clear hFi)
                go_ret
                exact ⟨rfl, O7.out.k⟩
end Go.Proofs.Ytkkajcakgihckaa
