/- The walk of TimerDue: what is due are just the keys whose ticks are at most that, in their order; what is left is later -/
import Derived.Test.YtkkajcakgihckaaTlB
namespace Go.Proofs.Ytkkajcakgihckaa
open Go.RowKit Go.Shelf
attribute [local go_sem] Oper.semAt_some
attribute [local go_sem ↓] Go.wp_at_zero Go.wp_at_succ

set_option maxRecDepth 100000 in
set_option maxHeartbeats 4000000 in
theorem TimerDue_any (a : Option Addr) (xs : List Op1) (c : Nat) (now : Int) (key : Int) (w : World) (hx : OpsArg w a xs c) (hnow : (Lit.int .i64 now).wf = true) (hkey : (Lit.int .i64 key).wf = true) :
    Calls Try.prog 5 #[.slice a xs.length c, .int .i64 now, .int .i64 key] w fun e w' => e = .returned (.bool true) ∧ Keeps [] w w' := by
  have Wnow := Lib.hid hnow
  have Wkey := Lib.hid hkey
  clear hnow hkey
  have HX := Lib.hid (hx.take 90)
  have hm90 : (xs.take 90).length ≤ 90 := by rw [List.length_take]; omega
  have hSh := shown_any w
  have hF := fun W hW => few_any a xs c W (hx.keeps hW)
  obtain ⟨N, hN⟩ : ∃ N, xs.length = N := ⟨_, rfl⟩
  rw [hN] at hF
  obtain ⟨ops, hops⟩ : ∃ ops, xs.take 90 = ops := ⟨_, rfl⟩
  rw [hops] at HX hm90 hF
  obtain ⟨M, hM⟩ : ∃ M, ops.length = M := ⟨_, rfl⟩
  rw [hM] at hm90 hF
  have HM := Lib.hid hM
  have HF := Lib.hid hF
  rw [hN]
  clear hx hN hops hM hF
  go_enter Try.func5, Try.ntmps5
  go_wp2_with (go_at_call 9; refine hSh.mono ?_; rintro e w1 ⟨rfl, k1⟩; clear hSh; have hF := HF.out w1 k1; have hNw := own_new w w1 k1; clear k1)
  go_wp2_with (first
    | (go_at_call 10; refine hF.mono ?_; rintro e w2 ⟨rfl, rfl⟩; clear hF)
    | (go_at_call 11; refine hNw.mono ?_; rintro e w3 ⟨rfl, o3⟩; clear hNw; have O3 := Lib.hid o3; clear o3))
  obtain ⟨t, ht⟩ : ∃ t, w1.heap.size + 1 = t := ⟨_, rfl⟩
  rw [ht] at O3 ⊢
  clear ht
  go_loopw [9] (fun i wr => ∃ (k : Nat) (F : List Nat), k ≤ M ∧ i = .int .i64 k ∧ Hid (OwnF w wr F t k (runL (ops.take k)))) (fun i _ => M - (intOf i).toNat)
  case atStart => exact ⟨0, _, Nat.zero_le _, rfl, O3⟩
  case round =>
    obtain ⟨k, F, hk, rfl, HO⟩ := hrel
    by_cases hlt : k < M
    · have hk1 : k < ops.length := by rw [HM.out]; exact hlt
      obtain ⟨b, off, rfl, hb, hat⟩ := HX.out.2.2 (by omega)
      obtain ⟨h1, h2, h3⟩ := hat k hk1
      obtain ⟨x, hxk⟩ : ∃ x, ops[k] = x := ⟨_, rfl⟩
      rw [hxk] at h1 h2 h3
      have hwf : x.wf := HX.out.1 x (by rw [← hxk]; exact List.getElem_mem _)
      rw [← HO.out.k.cell hb (by simp)] at h1 h2 h3
      have i1 : (0 : Int) ≤ (k : Int) := by omega
      have i2 : (k : Int) < (M : Int) := by omega
      have hD := own_do HO.out x hwf (by omega)
      have hrun : runL (ops.take (k + 1)) = (doL (runL (ops.take k)) x).2 := by rw [runL_snoc hk1, hxk]
      rw [← hrun] at hD
      unfold Op1.val at hD
      clear hat hxk hwf hrun hk1 hb
      go_wp2_with (go_at_call 13; refine hD.mono ?_; rintro e w4 ⟨⟨v4, rfl, _⟩, F4, o4⟩; clear hD; have O4 := Lib.hid o4; clear o4)
      go_roundw
      case rel => exact ⟨k + 1, F4, by omega, by go_num, O4⟩
      case measure => simp [intOf]; omega
    · obtain rfl : k = M := by omega
      obtain ⟨L, hL⟩ : ∃ L, runL (ops.take k) = L := ⟨_, rfl⟩
      rw [hL] at HO
      have hn : k < 100 := by omega
      clear hL O3 HX HF HM hk hlt
      have hok := HO.out.good.ok
      have hlen := HO.out.good.le
      have HOK := Lib.hid hok
      clear hok
      obtain ⟨ys, hys⟩ : ∃ ys, keysL L = ys := ⟨_, rfl⟩
      obtain ⟨yd, hyd⟩ : ∃ ys, keysL (dueL L now) = ys := ⟨_, rfl⟩
      obtain ⟨L2, hL2⟩ : ∃ L2, leftL L now = L2 := ⟨_, rfl⟩
      obtain ⟨yl, hyl⟩ : ∃ ys, keysL L2 = ys := ⟨_, rfl⟩
      have hsum : ys = yd ++ yl := by rw [← hys, ← hyd, ← hyl, ← hL2, due_keys]
      have hyn : ys.length ≤ 64 := by rw [← hys]; unfold keysL; rw [List.length_map]; exact hlen
      have hydn : yd.length ≤ 64 := by rw [hsum, List.length_append] at hyn; omega
      have hyln : yd.length + yl.length ≤ 64 := by rw [hsum, List.length_append] at hyn; omega
      obtain ⟨o, ho⟩ : ∃ o, findL L key = o := ⟨_, rfl⟩
      have hmem : key ∈ yd ↔ ∃ z, o = some z ∧ z ≤ now := by rw [← hyd, mem_due_key HOK.out, ho]
      have hagain : dueL L2 now = [] := by rw [← hL2]; exact due_again HOK.out now
      have hnext : L2 = [] ∨ ∃ x l, L2 = x :: l ∧ now < x.at_ := by
        cases h : L2 with
        | nil => exact .inl rfl
        | cons x l => exact .inr ⟨x, l, rfl, left_first HOK.out (hL2.trans h)⟩
      obtain ⟨ws, hws⟩ : ∃ ws, o.isSome = ws := ⟨_, rfl⟩
      obtain ⟨od, hod⟩ : ∃ od, o.getD 0 = od := ⟨_, rfl⟩
      obtain ⟨inb, hin⟩ : ∃ inb, decide (key ∈ yd) = inb := ⟨_, rfl⟩
      have hcase : (ws = false ∧ inb = false) ∨ (ws = true ∧ od ≤ now ∧ inb = true) ∨ (ws = true ∧ ¬ od ≤ now ∧ inb = false) := by
        rw [← hin, ← hws, ← hod]
        cases o with
        | none => left; refine ⟨rfl, ?_⟩; rw [decide_eq_false_iff_not, hmem]; rintro ⟨z, e, _⟩; cases e
        | some z =>
          right
          by_cases hz : z ≤ now
          · left; exact ⟨rfl, hz, by rw [decide_eq_true_eq, hmem]; exact ⟨z, rfl, hz⟩⟩
          · right; exact ⟨rfl, hz, by rw [decide_eq_false_iff_not, hmem]; rintro ⟨y, e, hy⟩; injection e with e; subst e; exact hz hy⟩
      have hK := own_keys HO.out ys hys
      have hF := fun (W : World) F' (h : OwnF w W F' t k L) => own_find h key o ho Wkey.out
      rw [hws, hod] at hF
      have hD := fun (W : World) F' (h : OwnF w W F' t k L) => own_due h now yd hyd
      rw [hL2] at hD
      have HFF := Lib.hid hF
      have HDD := Lib.hid hD
      have HYL := Lib.hid hyl
      have HSUM := Lib.hid hsum
      have HYD := Lib.hid hydn
      have HYN := Lib.hid hyn
      have HYLN := Lib.hid hyln
      have HAG := Lib.hid hagain
      have HNX := Lib.hid hnext
      have HIN := Lib.hid hin
      have HC := Lib.hid hcase
      have HI := Lib.hid HO.out.hi
      clear hys hyd hL2 hyl hsum hyn hydn hyln ho hmem hagain hnext hws hod hin hcase hF hD
      go_wp2_with (go_at_call 18; refine hK.mono ?_; rintro e w5 ⟨⟨v5, rfl, hv5⟩, o5, _⟩; clear hK; have hFi := HFF.out _ _ o5; have HV5 := Lib.hid hv5; have O5 := Lib.hid o5; clear hv5 o5)
      go_wp2_with (go_at_call 20; refine hFi.mono ?_; rintro e w6 ⟨rfl, rfl⟩; clear hFi; have hDd := HDD.out _ _ O5.out)
      go_wp2_with (go_at_call 21; refine hDd.mono ?_; rintro e w6 ⟨⟨v6, rfl, hv6⟩, o6, k6⟩; clear hDd; have HV5b := Lib.hid (HV5.out.keeps k6 HI.out); have HV6 := Lib.hid hv6; have hKl := own_keys o6 yl HYL.out; clear hv6 o6 k6)
      go_wp2_with (go_at_call 18; refine hKl.mono ?_; rintro e w7 ⟨⟨v7, rfl, hv7⟩, o7, k7⟩; clear hKl; have HV5c := Lib.hid (HV5b.out.keeps k7 (by simp)); have HV6b := Lib.hid (HV6.out.keeps k7 (by simp)); have HV7 := Lib.hid hv7; have O7 := Lib.hid o7; have hgi := getI HV6b.out; obtain ⟨a6, c6, rfl, hc6⟩ := hgi; have HC6 := Lib.hid hc6; clear hv7 o7 k7 hc6 HV5b HV6 HV5)
      obtain ⟨A, hA⟩ : ∃ A, yd.length = A := ⟨_, rfl⟩
      have HA := Lib.hid hA
      rw [hA]
      rw [hA] at HV6b HYD
      clear hA
      go_loop [15, 16] (fun b i => ∃ j : Nat, ∃ bb : Bool, j ≤ A ∧ b = .bool bb ∧ i = .int .i64 j ∧ Hid (bb = decide (key ∈ yd.take j))) (fun _ i => A - (intOf i).toNat)
      case atStart => exact ⟨0, false, Nat.zero_le _, rfl, rfl, Lib.hid (by simp)⟩
      case round =>
        obtain ⟨j, bb, hj, rfl, rfl, HB⟩ := hrel
        have hA64 := HYD.out
        by_cases hjl : j < A
        · obtain ⟨g, off, z, rfl, _, _, hz, hcz⟩ := HC6.out j (by rw [HA.out]; exact hjl)
          have hst := loop_mem (key := key) hz bb HB.out
          have j1 : (0 : Int) ≤ (j : Int) := by omega
          have j2 : (j : Int) < (A : Int) := by omega
          clear hz
          cases bb with
          | true =>
            have HST : Hid (true = decide (key ∈ yd.take (j + 1))) := Lib.hid (by rw [← hst]; rfl)
            clear hst
            go_wp2
            go_round
            case rel => exact ⟨j + 1, true, by omega, rfl, by go_num, HST⟩
            case measure => simp [intOf]; omega
          | false =>
            obtain ⟨ze, hze⟩ : ∃ ze, (z == key) = ze := ⟨_, rfl⟩
            have HST : Hid (ze = decide (key ∈ yd.take (j + 1))) := Lib.hid (by rw [← hst, hze]; rfl)
            clear hst
            go_wp2
            go_round
            case rel => exact ⟨j + 1, ze, by omega, rfl, by go_num, HST⟩
            case measure => simp [intOf]; omega
        · obtain rfl : j = A := by omega
          obtain rfl : bb = inb := by
            have := HB.out
            rw [List.take_of_length_le (by rw [HA.out]; exact Nat.le_refl _)] at this
            rw [this, HIN.out]
          obtain ⟨nk, nt, nm, hnl, hnm⟩ : ∃ nk nt nm, nextL L2 = (nk, nt, nm) ∧ (nm = false ∨ (nm = true ∧ now < nt)) := by
            rcases HNX.out with h | ⟨x, l, h, hlt⟩
            · exact ⟨0, 0, false, by rw [h]; rfl, .inl rfl⟩
            · exact ⟨x.key, x.at_, true, by rw [h]; rfl, .inr ⟨rfl, hlt⟩⟩
          have hNx := own_next O7.out _ hnl
          have HNM := Lib.hid hnm
          clear hnl hnm
          go_wp2_with (first
            | (go_at_call 15; refine hNx.mono ?_; rintro e w8 ⟨rfl, o8, k8⟩; clear hNx; have HV5d := Lib.hid (HV5c.out.keeps k8 (by simp)); have HV6d := Lib.hid (HV6b.out.keeps k8 (by simp)); have HV7d := Lib.hid (HV7.out.keeps k8 (by simp)); obtain ⟨u1, w9, hr1, hn1, hg1⟩ := app_ints (ty := 32) (show NewI w8 w8.heap.size (.slice none 0 0) [] from World.ownsRow_nil _ _ _ _) HV6d.out (Nat.le_refl _) (by simp only [List.length_nil]; have := HYLN.out; omega); have k9 : Keeps [] w8 w9 := (Keeps.refl [] w8).grown hg1 (fun k hk => by simp [Value.ownBlock] at hk); obtain ⟨u2, w10, hr2, hn2, hg2⟩ := app_ints (ty := 32) hn1 (HV7d.out.keeps k9 (by simp)) k9.size (by simp only [List.nil_append]; have := HYLN.out; omega); have k10 : Keeps [] w8 w10 := k9.grown hg2 (fun k hk => .inr (hn1.block k hk)); have HV5e := Lib.hid (HV5d.out.keeps k10 (by simp)).ints; have HV8 := Lib.hid hn2.ints; have O10 := Lib.hid (o8.keeps k10); clear o8 k8 k9 k10 hn1 hn2 hg1 hg2)
            | (at_builtin; refine wpList_append_run rfl _ _ 32 rfl (by rfl) (by rfl) hr1 ?_; clear hr1)
            | (at_builtin; refine wpList_append_run rfl _ _ 32 rfl (by rfl) (by rfl) hr2 ?_; clear hr2))
          have hI := rInts_any v5 u2 ys ys true (by simp) (by have := HYN.out; omega) w10 HV5e.out (by have := HV8.out; rwa [List.nil_append, ← HSUM.out] at this)
          refine hI.mono ?_
          rintro e w11 ⟨rfl, k11⟩
          have hDl := own_due (O10.out.keeps k11) now [] (by rw [HAG.out]; rfl)
          have O11 := Lib.hid (O10.out.keeps k11)
          clear hI k11
          rcases HC.out with ⟨rfl, rfl⟩ | ⟨rfl, hod, rfl⟩ | ⟨rfl, hod, rfl⟩
          all_goals
            rcases HNM.out with rfl | ⟨rfl, hnt⟩
            all_goals
              go_wp2_with (fail)
              refine hDl.mono ?_
              rintro e w12 ⟨⟨v12, rfl, hv12⟩, o12, _⟩
              obtain ⟨a12, c12, rfl⟩ := hv12.val
              have O12 := Lib.hid o12
              clear hDl hv12 o12
              go_wp2
              go_ret
              exact ⟨by first | rfl | exact ret_bool (by simp; omega), O12.out.k⟩
end Go.Proofs.Ytkkajcakgihckaa
