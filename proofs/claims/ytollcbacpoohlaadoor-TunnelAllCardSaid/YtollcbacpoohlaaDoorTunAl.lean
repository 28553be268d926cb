/- The walk of TunnelAll. Printed by gen_tunlaws.py. -/
import Derived.Test.YtollcbacpoohlaaDoorTunPu
import Derived.Test.YtollcbacpoohlaaDoorTunOr
namespace Go.Proofs.YtollcbacpoohlaaDoor
open Go.RowKit
attribute [local go_sem ↓] Go.wp_at_zero Go.wp_at_succ

set_option maxRecDepth 100000 in
theorem all_bad (n : Int) (v : Value) (side : Int) (w : World) (hE : Et w) (h : n < 1 ∨ 4096 < n) :
    Calls Tryd.prog 3 #[.int .i64 n, v, .int .i64 side] w fun e w' => e = .returned (.bool true) ∧ Keeps [] w w' := by
  have HE0 := Lib.hid hE
  have H := Lib.hid h
  clear hE h
  go_enter Tryd.func3, Tryd.ntmps3
  go_wp2_with (fail)
  refine (shown_any _ HE0.out).mono ?_
  rintro e w1 ⟨rfl, hk⟩
  have HK1 := Lib.hid hk
  have HE1 := Lib.hid (HE0.out.keeps hk (by simp))
  clear hk
  go_wp2_with (fail)
  refine (made_bad n _ _ H.out).mono ?_
  rintro e w2 ⟨rfl, hk⟩
  have HK2 := Lib.hid (HK1.out.trans hk)
  have HE2 := Lib.hid (HE1.out.keeps hk (by simp))
  clear hk
  go_wp2
  go_ret
  exact ⟨rfl, HK2.out⟩

set_option maxRecDepth 100000 in
theorem all_side (cap : Nat) (v : Value) (side : Int) (hs : side < 0 ∨ 1 < side) (w : World) (hE : Et w) (h1 : 1 ≤ cap) (h2 : cap ≤ 4096) :
    Calls Tryd.prog 3 #[.int .i64 cap, v, .int .i64 side] w fun e w' => e = .returned (.bool true) ∧ Keeps [] w w' := by
  have HE0 := Lib.hid hE
  clear hE
  go_enter Tryd.func3, Tryd.ntmps3
  go_wp2_with (fail)
  refine (shown_any _ HE0.out).mono ?_
  rintro e w1 ⟨rfl, hk⟩
  have HK1 := Lib.hid hk
  have HE1 := Lib.hid (HE0.out.keeps hk (by simp))
  clear hk
  go_wp2_with (fail)
  refine (made_up cap _ HE1.out h1 h2).mono ?_
  rintro e w2 ⟨L, rfl, -, hk, -⟩
  have HK2 := Lib.hid (HK1.out.trans hk)
  have HE2 := Lib.hid (HE1.out.keeps hk (by simp))
  clear hk
  rcases hs with hs | hs
  · go_wp2
    go_ret
    exact ⟨rfl, HK2.out⟩
  · have hs' : ¬ side < 0 := by omega
    go_wp2
    go_ret
    exact ⟨rfl, HK2.out⟩

set_option maxRecDepth 100000 in
set_option maxHeartbeats 8000000 in
theorem all_good (cap : Nat) (a : Option Addr) (c : Nat) (xs : List Op1) (side : Int) (hs0 : ¬ side < 0) (hs1 : ¬ 1 < side) (w : World) (hE : Et w) (h1 : 1 ≤ cap) (h2 : cap ≤ 4096) (hx : OpsArg w a xs) :
    Calls Tryd.prog 3 #[.int .i64 cap, .slice a xs.length c, .int .i64 side] w fun e w' => e = .returned (.bool true) ∧ Keeps [] w w' := by
  have HE0 := Lib.hid hE
  have HX0 := Lib.hid hx
  have HSD : Hid (side = 0 ∨ side = 1) := (by omega : side = 0 ∨ side = 1)
  have HSB : Hid (sideB side = true) := (by have := HSD.out; simpa [sideB] using this : sideB side = true)
  clear hE hx
  have hyl := cutOps_length xs
  have hys := cutOps_size xs
  obtain ⟨ys, hye⟩ : ∃ ys, cutOps xs = ys := ⟨_, rfl⟩
  rw [hye] at hyl hys
  have HYS := Lib.hid hys
  have HYE := Lib.hid hye
  clear hys hye

  go_enter Tryd.func3, Tryd.ntmps3
  go_wp2_with (fail)
  refine (shown_any _ HE0.out).mono ?_
  rintro e w1 ⟨rfl, hk⟩
  have HK1 := Lib.hid hk
  have HE1 := Lib.hid (HE0.out.keeps hk (by simp))
  have HX1 := Lib.hid (HX0.out.keeps hk (by simp))
  clear hk
  go_wp2_with (fail)
  refine (made_up cap _ HE1.out h1 h2).mono ?_
  rintro e w2 ⟨L, rfl, ht, hk, hlo⟩
  have HK2 := Lib.hid (HK1.out.trans hk)
  have HE2 := Lib.hid (HE1.out.keeps hk (by simp))
  have HT2 := Lib.hid ht
  have HX2 := Lib.hid (HX1.out.keeps hk (by simp))
  have HLO : Hid (∀ k ∈ L.l, w.heap.size ≤ k) := (fun k hk => Nat.le_trans HK1.out.size (hlo k hk) : ∀ k ∈ L.l, w.heap.size ≤ k)
  clear ht hk hlo
  go_wp2_with (fail)
  refine (cutops_g _ a c xs HX2.out).mono ?_
  rintro e w3 ⟨a', c', g, rfl, hin, hgl, hk⟩
  have HK3 := Lib.hid (HK2.out.trans hk)
  have HE3 := Lib.hid (HE2.out.keeps hk (by simp))
  have HT3 := Lib.hid (HT2.out.keep hk)
  have hye := HYE.out
  rw [hye] at hin
  rw [hye]
  clear hye
  have HIN := Lib.hid hin
  have HGL : Hid (g ∉ L.l) := (fun hm => by have := HT2.out.lt g hm; omega : g ∉ L.l)
  clear hk hin hgl
  go_wp2
  go_loopw [10, 11, 12] (fun p q i wr => ∃ k m : Nat, ∃ t : Tu, ∃ F : List UInt8 × List UInt8, ∃ A : List UInt8, i = .int .i64 k ∧ k ≤ ys.length ∧ p = .string (str A) ∧ q = .string (str (A.take m)) ∧ Hid (TuAt wr L cap t ∧ Ord t F ∧ t.st = 2 ∧ (Fat F side).length ≤ 50 * k ∧ Fat F side = A ∧ (t.at_ side).d = m) ∧ Hid (Keeps L.l w3 wr)) (fun _ _ i _ => ys.length - (intOf i).toNat)
  case atStart => exact ⟨0, 0, upT, ([], []), [], rfl, Nat.zero_le _, rfl, rfl, (⟨HT3.out, ⟨⟨rfl, rfl, .inl rfl⟩, ⟨rfl, rfl, .inl rfl⟩⟩, rfl, by rcases HSD.out with h | h <;> rw [h] <;> simp [Fat], by rcases HSD.out with h | h <;> rw [h] <;> rfl, by rcases HSD.out with h | h <;> rw [h] <;> rfl⟩ : _ ∧ _ ∧ _ ∧ _ ∧ _ ∧ _), (Keeps.refl _ _ : Keeps L.l w3 w3)⟩
  case round =>
    obtain ⟨k, m, t, F, A, rfl, hk, rfl, rfl, HT, HK⟩ := hrel
    by_cases hlt : k < ys.length
    · have hin := HIN.out.keeps HK.out HGL.out
      obtain ⟨x, rfl, hx, d0, d1, d2, d3⟩ := hin.at_ hlt
      have i1 : (0 : Int) ≤ (k : Int) := by omega
      have i2 : (k : Int) < (ys.length : Int) := by omega
      obtain ⟨hk', hx'⟩ := List.getElem?_eq_some_iff.1 hx
      have hsz : x.s.size ≤ 50 := HYS.out x (by rw [← hx']; exact List.getElem_mem _)
      have HSZ := Lib.hid hsz
      clear hin hx hk' hx' hsz
      by_cases h0 : x.kind = 0
      · have hp : (x.kind == 0) = true := by simpa using h0
        clear h0
        go_wp2_with (fail)
        go_roundw
        case rel => exact ⟨k + 1, m, t, F, A, by go_num, by omega, rfl, rfl, (⟨HT.out.1, HT.out.2.1, HT.out.2.2.1, by have := HT.out.2.2.2.1; omega, HT.out.2.2.2.2⟩ : _ ∧ _ ∧ _ ∧ _ ∧ _), HK⟩
        case measure => simp [intOf]; omega
      have hp : (x.kind == 0) = false := by simpa using h0
      by_cases h5 : x.kind = 5
      · have hp5 : (x.kind == 5) = true := by simpa using h5
        clear h0 h5
        go_wp2_with (fail)
        go_roundw
        case rel => exact ⟨k + 1, m, t, F, A, by go_num, by omega, rfl, rfl, (⟨HT.out.1, HT.out.2.1, HT.out.2.2.1, by have := HT.out.2.2.2.1; omega, HT.out.2.2.2.2⟩ : _ ∧ _ ∧ _ ∧ _ ∧ _), HK⟩
        case measure => simp [intOf]; omega
      have hp5 : (x.kind == 5) = false := by simpa using h5
      obtain ⟨n, q, r, t', hact⟩ : ∃ n q r t', t.act cap x = ((n, q, r), t') := ⟨_, _, _, _, rfl⟩
      obtain ⟨F', hO', hq1, hq2⟩ := act_flow HT.out.2.1 HT.out.1.a.ok HT.out.1.b.ok HT.out.1.ok x hact
      have hst' : t'.st = 2 := (act_st hact h0 h5).trans HT.out.2.2.1
      have hd := do_any L cap t t' x (by have := HSZ.out; omega) n q r hact wr (HE3.out.keeps HK.out HT3.out.nz) HT.out.1
      have HD := Lib.hid hd
      have HO := Lib.hid hO'
      have HQ1 := Lib.hid hq1
      have HQ2 := Lib.hid hq2
      have HS2 := Lib.hid hst'
      clear hact hO' hq1 hq2 hd hst' h0 h5
      go_wp2_with (fail)
      refine HD.out.mono ?_
      rintro e w7 ⟨rfl, ht, hk7⟩
      have f0 := hk7.cell (p := ⟨g, k * 4, none⟩) (World.block_lt_of_cell? wr _ d0) HGL.out
      have f1 := hk7.cell (p := ⟨g, k * 4 + 1, none⟩) (World.block_lt_of_cell? wr _ d1) HGL.out
      have f3 := hk7.cell (p := ⟨g, k * 4 + 3, none⟩) (World.block_lt_of_cell? wr _ d3) HGL.out
      rw [d0] at f0
      rw [d1] at f1
      rw [d3] at f3
      have a0 := (Keeps.refl [] w7).cellsA ⟨g, k * 4, none⟩ _ (.cells #[.int .i64 n, .string (str q), .int .i64 r] 32) f0
      have a1 := (Keeps.refl [] w7).cellsA ⟨g, k * 4 + 1, none⟩ _ (.cells #[.int .i64 n, .string (str q), .int .i64 r] 32) f1
      have hka : Keeps [] w7 (w7.alloc (.cells #[.int .i64 n, .string (str q), .int .i64 r] 32)) := (Keeps.refl [] w7).alloc _
      obtain ⟨W8, hW8⟩ : ∃ W8, w7.alloc (.cells #[.int .i64 n, .string (str q), .int .i64 r] 32) = W8 := ⟨_, rfl⟩
      rw [hW8] at hka
      have HF3 := Lib.hid (hka.cells _ _ f3)
      have hSd : Blk W8 w7.heap.size 32 #[.int .i64 n, .string (str q), .int .i64 r] := by rw [← hW8]; exact Blk.new w7 _ _
      have HSDd := Lib.hid hSd
      have HT8 := Lib.hid (TuAt.keep ht hka)
      have HK8 := Lib.hid ((HK.out.trans hk7).trans (hka.mono (by simp)))
      have HW8 := Lib.hid hW8
      clear ht hk7 hka hSd hW8 d0 d1 d2 d3 f0 f1 f3
      by_cases hc : x.side = side ∧ r = 0
      · obtain ⟨hxs, rfl⟩ := hc
        have hsb : sideB x.side = true := by rw [hxs]; exact HSB.out
        obtain ⟨hk2, hkn, hout, hoth, hq⟩ := HQ2.out rfl hsb
        rw [hxs] at hk2 hout
        have hA := HT.out.2.2.2.2.1
        have hm := HT.out.2.2.2.2.2
        rw [hA, hm] at hout
        rw [hA] at hk2
        have hAl : A.length ≤ 2500 := by have := HT.out.2.2.2.1; rw [hA] at this; omega
        have hF'l : (Fat F' side).length ≤ A.length + 50 := by
          by_cases hkd : x.kind = 2
          · obtain ⟨hn, _, hF⟩ := hk2 hkd
            rw [hF, Fat_set, List.length_append, List.length_take]
            have := HSZ.out
            omega
          · rw [hkn hkd, hA]; omega
        have hql : q.length ≤ 3000 := by
          have e1 := congrArg List.length hout
          rw [List.length_append, List.length_take] at e1
          omega
        have hb1 : (str (A.take m)).size + (str q).size ≤ 9223372036854775807 := by rw [str_size, str_size, List.length_take]; omega
        have hxs1 : (x.side == side) = true := by simpa using hxs
        rw [hxs] at a1
        have HOUT := Lib.hid hout
        have HFL : Hid ((Fat F' side).length ≤ 50 * (k + 1)) := (by have := HT.out.2.2.2.1; rw [hA] at this; omega : (Fat F' side).length ≤ 50 * (k + 1))
        clear hsb hout hoth hq hA hm hF'l hql
        by_cases hkd : x.kind = 2
        · obtain ⟨hn, rfl, hF⟩ := hk2 hkd
          have hFA : Fat F' side = A ++ x.s.data.toList.take n := by rw [hF, Fat_set]
          have HFA := Lib.hid hFA
          have hp2 : (x.kind == 2) = true := by simpa using hkd
          have hb2 : (str A).size + n ≤ 9223372036854775807 := by rw [str_size]; have := HSZ.out; omega
          have hmn1 : (if x.s.size < n then (x.s.size : Int) else (n : Int)) = (n : Int) := if_neg (by omega)
          have hmn2 : ¬ (n : Int) < 0 := by omega
          have hn1 : (0 : Int) ≤ (n : Int) := by omega
          have hn2 : (n : Int) ≤ (x.s.size : Int) := by omega
          have hsl : ∀ W : World, (Instr.slice 9 (.string x.s) none (some (.int .i64 (n : Int))) none).run Tryd.prog W = .ok (.string (x.s.extract 0 n)) W := fun W => by
            have := run_slice_string_h (P := Tryd.prog) (w := W) (t := 9) (s := x.s) Tryd.underlying9 .i64 (n : Int) (by omega) (by omega)
            simpa using this
          clear hk2 hkn hF hFA hkd hAl hn hxs
          go_wp2_with (fail)
          rw [HW8.out]
          have z0 := HSDd.out.cell 0
          have b3 := HF3.out
          simp only [List.getElem?_toArray, List.getElem?_cons_zero] at z0
          go_quiet (fail)
          go_wp2_with (fail)
          go_roundw
          case rel => exact ⟨k + 1, (t'.at_ side).d, t', F', Fat F' side, by go_num, by omega, by rw [HFA.out, str_cut], by rw [HOUT.out, str_app], (⟨HT8.out.keep ((Keeps.refl [] W8).drewN _), HO.out, HS2.out, HFL.out, rfl, rfl⟩ : _ ∧ _ ∧ _ ∧ _ ∧ _ ∧ _), Lib.hid (HK8.out.drewN _)⟩
          case measure => simp [intOf]; omega
        · have hFA : Fat F' side = A := by rw [hkn hkd]; exact HT.out.2.2.2.2.1
          have HFA := Lib.hid hFA
          have hp2 : (x.kind == 2) = false := by simpa using hkd
          clear hk2 hkn hFA hkd hAl hxs
          go_wp2_with (fail)
          rw [HW8.out]
          go_roundw
          case rel => exact ⟨k + 1, (t'.at_ side).d, t', F', Fat F' side, by go_num, by omega, by rw [HFA.out], by rw [HOUT.out, str_app], (⟨HT8.out, HO.out, HS2.out, HFL.out, rfl, rfl⟩ : _ ∧ _ ∧ _ ∧ _ ∧ _ ∧ _), HK8⟩
          case measure => simp [intOf]; omega
      · have hc' : x.side ≠ side ∨ r ≠ 0 := by
          by_cases h : x.side = side
          · exact .inr (fun hr => hc ⟨h, hr⟩)
          · exact .inl h
        obtain ⟨e1, e2⟩ := flow_other HSD.out HQ1.out HQ2.out hc'
        have hA := HT.out.2.2.2.2.1
        have hm := HT.out.2.2.2.2.2
        have HI : Hid (TuAt W8 L cap t' ∧ Ord t' F' ∧ t'.st = 2 ∧ (Fat F' side).length ≤ 50 * (k + 1) ∧ Fat F' side = A ∧ (t'.at_ side).d = m) := (⟨HT8.out, HO.out, HS2.out, by rw [e1]; have := HT.out.2.2.2.1; omega, e1.trans hA, e2.trans hm⟩ : _ ∧ _ ∧ _ ∧ _ ∧ _ ∧ _)
        clear e1 e2 hA hm hc HQ1 HQ2 HT8
        by_cases hxs : x.side = side
        · have hxs1 : (x.side == side) = true := by simpa using hxs
          have hr1 : (r == 0) = false := by
            have := hc'.resolve_left (fun h => h hxs)
            simpa using this
          clear hxs hc'
          go_wp2_with (fail)
          rw [HW8.out]
          go_roundw
          case rel => exact ⟨k + 1, m, t', F', A, by go_num, by omega, rfl, rfl, HI, HK8⟩
          case measure => simp [intOf]; omega
        · have hxs1 : (x.side == side) = false := by simpa using hxs
          clear hxs hc'
          go_wp2_with (fail)
          rw [HW8.out]
          go_roundw
          case rel => exact ⟨k + 1, m, t', F', A, by go_num, by omega, rfl, rfl, HI, HK8⟩
          case measure => simp [intOf]; omega
    · obtain rfl : k = ys.length := by omega
      have hge : ¬ (ys.length : Int) < (ys.length : Int) := by omega
      obtain ⟨hT, hOr, hst, hlen, hA, rfl⟩ := HT.out
      have hfl := hOr.at_ side
      rw [hA] at hfl hlen
      have hw := hT.way side
      have hfeq : (t.at_ side).f = (t.at_ side).s + (t.at_ side).i.length := (hT.ok.at_ side).resolve_right (fun hm => by omega)
      have hP : Pmp cap 0 (t.at_ side) := ⟨hw.ok, hfeq, by have := hfl.len; omega, fun h => absurd h (by omega), fun h => absurd h (by omega), fun h => absurd h (by omega)⟩
      have HP := Lib.hid hP
      have HFL := Lib.hid hfl
      have HTT := Lib.hid hT
      have HST := Lib.hid hst
      obtain ⟨I, hI⟩ : ∃ I, str A = I := ⟨_, rfl⟩
      have hsi : I.size = A.length := by rw [← hI, str_size]
      have HI := Lib.hid hI
      have hAl : A.length ≤ 2500 := by omega
      rw [hI]
      clear hT hOr hst hlen hA hfl hw hfeq hP hI HT
      go_wp2
      go_loopw [11, 14] (fun q i wr2 => ∃ j : Nat, ∃ t2 : Tu, i = .int .i64 j ∧ j ≤ 60 ∧ q = .string (str (A.take (t2.at_ side).d)) ∧ Hid (TuAt wr2 L cap t2 ∧ Fl (t2.at_ side) A ∧ t2.st = 2 ∧ Pmp cap j (t2.at_ side)) ∧ Hid (Keeps L.l w3 wr2)) (fun _ i _ => 60 - (intOf i).toNat)
      case atStart => exact ⟨0, t, rfl, by omega, rfl, (⟨HTT.out, HFL.out, HST.out, HP.out⟩ : _ ∧ _ ∧ _ ∧ _), HK⟩
      case round =>
        rename_i wr2
        obtain ⟨j, t2, rfl, hj, rfl, HT2, HK2⟩ := hrel
        obtain ⟨d, hd⟩ : ∃ d, (t2.at_ side).d = d := ⟨_, rfl⟩
        have hdl : d ≤ A.length := by
          have h1 := HT2.out.2.2.2.ok.d
          have h2 := HT2.out.2.2.2.ok.f
          have h3 := HT2.out.2.1.len
          omega
        rw [hd]
        obtain ⟨O, hO⟩ : ∃ O, str (A.take d) = O := ⟨_, rfl⟩
        have hso : O.size = d := by rw [← hO, str_size, List.length_take]; omega
        have HDD := Lib.hid hd
        have HOO := Lib.hid hO
        rw [hO]
        clear hd hO
        by_cases hgo : j < 60 ∧ d < A.length
        · obtain ⟨hj6, hdA⟩ := hgo
          have hj1 : (j : Int) < 60 := by omega
          obtain ⟨r1, t3, hg⟩ : ∃ r1 t3, t2.grant side 100 = (r1, t3) := ⟨_, _, rfl⟩
          obtain ⟨kk, t4, q, t5, hm, hdr, hst5, hat5, hat4⟩ := pump_tu (cap := cap) HSB.out HT2.out.2.2.1 hg
          have hq : q = (((t2.at_ side).grant 100).move cap 100).o.take 200 := by
            have h := congrArg Prod.fst hdr
            unfold Tu.drain at h
            rw [HSB.out, if_pos rfl, hat4] at h
            exact h.symm
          obtain ⟨hfl5, htk5⟩ := HT2.out.2.1.pump HT2.out.2.2.2.ok
          rw [← hq, ← hat5, HDD.out] at htk5
          rw [← hat5] at hfl5
          have hP5 := HT2.out.2.2.2.next
          rw [← hat5] at hP5
          have hqb : O.size + (str q).size ≤ 9223372036854775807 := by
            have e1 := congrArg List.length htk5
            rw [List.length_append, List.length_take, List.length_take] at e1
            rw [str_size, hso]
            omega
          have HG := Lib.hid hg
          have HM := Lib.hid hm
          have HR := Lib.hid hdr
          have HF5 : Hid (Fl (t5.at_ side) A ∧ t5.st = 2 ∧ Pmp cap (j + 1) (t5.at_ side)) := (⟨hfl5, hst5, hP5⟩ : _ ∧ _ ∧ _)
          have HTK := Lib.hid htk5
          clear hg hm hdr hst5 hat5 hat4 hq hfl5 htk5 hP5 hj6
          go_wp2_with (fail)
          refine (uGrant_any L cap t2 t3 side 100 r1 HG.out _ (HE3.out.keeps HK2.out HT3.out.nz) HT2.out.1).mono ?_
          rintro e w11 ⟨rfl, ht, hk⟩
          have HT11 := Lib.hid ht
          have HK11 := Lib.hid (HK2.out.trans hk)
          clear ht hk
          go_wp2_with (fail)
          refine (uMove_any L cap t3 t4 side 100 kk 0 HM.out _ (HE3.out.keeps HK11.out HT3.out.nz) HT11.out).mono ?_
          rintro e w12 ⟨rfl, ht, hk⟩
          have HT12 := Lib.hid ht
          have HK12 := Lib.hid (HK11.out.trans hk)
          clear ht hk
          go_wp2_with (fail)
          refine (uDrain_any L cap t4 t5 side 200 q 0 HR.out _ (HE3.out.keeps HK12.out HT3.out.nz) HT12.out).mono ?_
          rintro e w13 ⟨rfl, ht, hk⟩
          have HT13 := Lib.hid ht
          have HK13 := Lib.hid (HK12.out.trans hk)
          clear ht hk
          go_wp2_with (fail)
          go_roundw
          case rel => exact ⟨j + 1, t5, by go_num, by omega, by rw [HTK.out, ← str_app, HOO.out], (⟨HT13.out, HF5.out⟩ : TuAt w13 L cap t5 ∧ _), HK13⟩
          case measure => simp [intOf]; omega
        · have hOI : O = I := by
            have hdd : d = A.length := by
              by_cases hj6 : j < 60
              · have : ¬ d < A.length := fun h => hgo ⟨hj6, h⟩
                omega
              · obtain rfl : j = 60 := by omega
                have h1 := HT2.out.2.2.2.done
                have h2 := HT2.out.2.1.len
                have h3 := HDD.out
                omega
            rw [← HOO.out, ← HI.out, hdd, List.take_length]
          subst hOI
          have HKF := Lib.hid (HK3.out.trans' HK2.out (fun i hi => .inr (HLO.out i hi)))
          rcases Nat.lt_or_ge j 60 with hj6 | hj6
          · have hj1 : (j : Int) < 60 := by omega
            have hdn : ¬ d < d := by omega
            have hdA : d = A.length := by omega
            clear hgo hsi hdA
            go_wp2
            go_ret
            exact ⟨rfl, HKF.out⟩
          · have hj1 : ¬ (j : Int) < 60 := by omega
            clear hgo hsi
            go_wp2
            go_ret
            exact ⟨rfl, HKF.out⟩

theorem alllaw_any (n : Int) (a : Option Addr) (xs : List Op1) (c : Nat) (side : Int) (w : World) (hx : OpsArg w a xs) (hE : Et w) :
    Calls Tryd.prog 3 #[.int .i64 n, .slice a xs.length c, .int .i64 side] w fun e w' => e = .returned (.bool true) ∧ Keeps [] w w' := by
  by_cases hn : n < 1 ∨ 4096 < n
  · exact all_bad n _ side w hE hn
  · obtain ⟨cap, rfl⟩ : ∃ cap : Nat, n = cap := ⟨n.toNat, by omega⟩
    by_cases hs : side < 0 ∨ 1 < side
    · exact all_side cap _ side hs w hE (by omega) (by omega)
    · exact all_good cap a c xs side (by omega) (by omega) w hE (by omega) (by omega) hx
end Go.Proofs.YtollcbacpoohlaaDoor
