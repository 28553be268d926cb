/- The walk of the law SnapsWalk. -/
import Derived.Test.YtbcppmcjbcnlbaaDoorSnapZ
import Derived.Deep.DeepCutAuto
namespace Go.Proofs.YtbcppmcjbcnlbaaDoor
open Go.RowKit Go.Shelf
attribute [local go_sem ↓] Go.wp_at_zero Go.wp_at_succ

def sOther : ByteArray := ⟨#[111, 116, 104, 101, 114]⟩
theorem other_items : itemsB [sOther] = true := by kernel_rfl
set_option maxRecDepth 100000 in
set_option maxHeartbeats 8000000 in
theorem walklaw_any (a : Option Addr) (c : Nat) (V : List SV) (L : List Sn) (n : Nat) (hn : V.length = n) (next : Int) (ia : Option Addr) (ic m : Nat) (xs : List ByteArray) (hm : xs.length = m) (num now : Int) (la : Option Addr) (lc lm : Nat) (ls : List Int) (hlm : ls.length = lm) (w : World) (hP : PoolArg w a V L) (hI : StrsArg w ia xs) (hL : IntsArg w la lc ls) (e : Nat → Addr) (he : Env w e) :
    Calls Tryd.prog 3 #[.agg #[.slice a n c, .int .i64 next], .slice ia m ic, .int .i64 num, .int .i64 now, .slice la lm lc] w fun r w' => r = .returned (.bool true) ∧ Keeps [] w w' := by
  have HI := Lib.hid hI
  have HM := Lib.hid hm
  have HE00 := Lib.hid he
  have HLA := Lib.hid (hL.take 40)
  obtain ⟨M, hM, hMl, hle⟩ := forty_min ls lm hlm
  have hsl := slice_to la lm lc M (by have := hL.le; omega)
  have HML := Lib.hid hMl
  clear hI hm hL hle hMl hlm
  have HP := Lib.hid hP
  have HN := Lib.hid hn
  have k0 := (Keeps.refl [] w).alloc (.cells #[.slice a n c, .int .i64 next] 24)
  have HK := Lib.hid k0
  have HE0 := Lib.hid he
  have HE := Lib.hid (he.keep k0)
  have HB := Lib.hid (Blk.new w 24 #[.slice a n c, .int .i64 next])
  clear hP hn he k0
  go_enter Tryd.func3, Tryd.ntmps3
  go_wp2_with (fail)
  refine (shown_any _ e HE.out).mono ?_
  rintro r w1 ⟨rfl, k1⟩
  replace HK := Lib.hid (HK.out.trans k1)
  replace HE := Lib.hid (HE.out.keep k1)
  replace HB := Lib.hid (HB.out.keeps k1 (by simp))
  clear k1
  replace q0 := HB.out.cell 0
  replace q1 := HB.out.cell 1
  go_wp2_with (fail)
  refine (cut_any a c V L n HN.out next w1 (HP.out.keeps HK.out)).mono ?_
  rintro r w2 ⟨a2, n2, c2, V2, rfl, hn2, hP2, k2⟩
  have hb2 := HB.out.keeps k2 (by simp)
  replace q0 := hb2.cell 0
  replace q1 := hb2.cell 1
  have f0 := hb2.frozen 0
  have f1 := hb2.frozen 1
  replace HB := Lib.hid ((hb2.set_ 0 (.slice a2 n2 c2)).set_ 1 (.int .i64 next))
  have HP2 := Lib.hid ((hP2.far hb2 0 (.slice a2 n2 c2)).far (hb2.set_ 0 (.slice a2 n2 c2)) 1 (.int .i64 next))
  have k2' := keeps_box (b := w.heap.size) (v0 := .slice a2 n2 c2) (v1 := .int .i64 next) (HK.out.trans k2) (Nat.le_refl _)
  replace HE := Lib.hid (HE0.out.keep k2')
  replace HK := Lib.hid k2'
  have HN2 := Lib.hid hn2
  clear k2 k2' hb2 hP2 hn2
  go_wp2_with (fail)
  refine (items_any ia ic xs m HM.out _ (HI.out.keeps HK.out)).mono ?_
  rintro r w3 ⟨a3, m3, c3, rfl, hm3, hs3, k3⟩
  replace HK := Lib.hid (HK.out.trans k3)
  replace HE := Lib.hid (HE.out.keep k3)
  replace HB := Lib.hid (HB.out.keeps k3 (by simp))
  replace HP2 := Lib.hid (HP2.out.keeps k3)
  have HM3 := Lib.hid hm3
  have HS3 := Lib.hid hs3
  clear k3 hm3 hs3 f0 f1 HE0 HI HM HP HN
  replace q0 := HB.out.cell 0
  replace q1 := HB.out.cell 1
  dsimp only
  obtain ⟨ys, hys⟩ : ∃ ys, cutItems xs = ys := ⟨_, rfl⟩
  rw [hys] at HM3 HS3
  clear hys
  obtain ⟨⟨q, cur, err⟩, hq⟩ : ∃ x, pinA ⟨cutL L, next⟩ ys now = x := ⟨_, rfl⟩
  have HQ := Lib.hid hq
  clear hq
  go_wp2_with (fail)
  refine (pin_any a2 c2 V2 ⟨cutL L, next⟩ n2 HN2.out a3 c3 m3 ys HM3.out now _ HP2.out HS3.out e HE.out q cur err HQ.out).mono ?_
  rintro r w4 ⟨a4, n4, c4, V4, rfl, hn4, hP4, k4⟩
  have HK4s : Hid (w.heap.size ≤ w4.heap.size) := Lib.hid ((HK.out.trans k4).size)
  have k4' := k4.alloc (.cells #[.slice a4 n4 c4, .int .i64 q.next] 24)
  replace HK := Lib.hid (HK.out.trans k4')
  replace HE := Lib.hid (HE.out.keep k4')
  replace HB := Lib.hid (HB.out.keeps k4' (by simp))
  replace HP2 := Lib.hid (HP2.out.keeps k4')
  replace HS3 := Lib.hid (HS3.out.keeps k4')
  have HP4 := Lib.hid (hP4.keeps ((Keeps.refl [] w4).alloc (.cells #[.slice a4 n4 c4, .int .i64 q.next] 24)))
  have HB4 := Lib.hid (Blk.new w4 24 #[.slice a4 n4 c4, .int .i64 q.next])
  have HN4 := Lib.hid hn4
  clear k4 k4' hP4 hn4
  replace q0 := HB.out.cell 0
  replace q1 := HB.out.cell 1
  dsimp only
  clear hsl hM
  rcases pin_cases HQ.out with ⟨rfl, rfl, rfl⟩ | ⟨hmet, hit, hnx, rfl, rfl, rfl⟩
  · clear HQ
    go_wp2
    exact bodyPost_ret (v := .bool true) (by simp [results, Tryd.results3, go_sem]) rfl ⟨rfl, HK.out⟩
  · clear HQ
    by_cases h1 : num < 1
    · go_wp2
      exact bodyPost_ret (v := .bool true) (by simp [results, Tryd.results3, go_sem]) rfl ⟨rfl, HK.out⟩
    by_cases h2 : 10 < num
    · go_wp2
      exact bodyPost_ret (v := .bool true) (by simp [results, Tryd.results3, go_sem]) rfl ⟨rfl, HK.out⟩
    by_cases h3 : 1000000000 < now
    · go_wp2
      exact bodyPost_ret (v := .bool true) (by simp [results, Tryd.results3, go_sem]) rfl ⟨rfl, HK.out⟩
    obtain ⟨N, rfl⟩ := Int.eq_ofNat_of_zero_le (show 0 ≤ num by omega)
    have hI0 := walk_first (n := N) hmet hit hnx (by omega)
    dsimp only at hI0 HP4
    obtain ⟨P1, hp1⟩ : ∃ P, pinL (cutL L) now ++ [(⟨next, ys, now⟩ : Sn)] = P := ⟨_, rfl⟩
    rw [hp1] at hI0 HP4
    have HN10 : Hid (1 ≤ N ∧ N ≤ 10) := Lib.hid (by omega)
    have HI0 := Lib.hid hI0
    clear hI0 hp1 hmet hit hnx q0 q1
    have HLE := HK4s
    have HLL : Hid (w.heap.size ≤ (w4.alloc (.cells #[.slice a4 n4 c4, .int .i64 (next + 1)] 24)).heap.size) := Lib.hid (by have := HK4s.out; simp; omega)
    have HQL : Hid (w4.heap.size < (w4.alloc (.cells #[.slice a4 n4 c4, .int .i64 (next + 1)] 24)).heap.size) := Lib.hid (by simp)
    have HW0 : Hid (WalkB w (w4.alloc (.cells #[.slice a4 n4 c4, .int .i64 (next + 1)] 24)) (w4.alloc (.cells #[.slice a4 n4 c4, .int .i64 (next + 1)] 24)) w4.heap.size (.slice none 0 0) [] #[.slice a4 n4 c4, .int .i64 (next + 1)]) := Lib.hid ⟨HB4.out, HK.out, Keeps.refl _ _, nilrow _ _⟩
    have HSL := HS3
    clear HK HE HS3 HB4 HB HP2 HN2 HK4s
    go_wp2
    go_loopw [3, 15, 16, 17] (fun tn va vt vi wr => ∃ (k : Nat) (now1 at_ : Int) (all : List ByteArray) (Q : Po) (a c n : _) (V : List SV), k ≤ 70 ∧ tn = .int .i64 now1 ∧ vt = .int .i64 at_ ∧ vi = .int .i64 k ∧ Hid (WalkI next ys N k now1 Q at_ all) ∧ Hid (WalkB w (w4.alloc (.cells #[.slice a4 n4 c4, .int .i64 (next + 1)] 24)) wr w4.heap.size va all #[.slice a n c, .int .i64 Q.next]) ∧ Hid (PoolV wr a c V Q) ∧ Hid (V.length = n)) (fun _ _ _ vi _ => 70 - (intOf vi).toNat)
    case atStart => exact ⟨0, now, 0, [], _, a4, c4, n4, V4, by omega, rfl, rfl, rfl, HI0, HW0, HP4, HN4⟩
    case round =>
      obtain ⟨k, now1, at_, all, Q, a7, c7, n7, V7, hk70, rfl, rfl, rfl, HWI, HWB, HP7, HN7⟩ := hrel
      clear HI0 HW0 HP4 HN4 h1 h2 h3
      rcases HWI.out.more HN10.out.1 with ⟨hat, hall⟩ | ⟨hat, hk⟩
      · subst hat hall
        obtain ⟨aA, cA, rfl, hsA⟩ := strs_of_row HWB.out.own (by have := HWI.out.len; omega) (fun x hx => HSL.out.size x hx)
        have HSA := Lib.hid hsA
        have HS3 := Lib.hid (HSL.out.keepsS HWB.out.kL (pool_nostr (b := w4.heap.size) (Blk.new w4 24 #[.slice a4 n4 c4, .int .i64 (next + 1)])))
        have HK := Lib.hid HWB.out.k
        obtain ⟨mA, hmA⟩ : ∃ mA, all.length = mA := ⟨_, rfl⟩
        rw [hmA]
        have HMA := Lib.hid hmA
        clear hsA hmA hk70
        go_wp2_with (fail)
        refine (samestr_any aA a3 cA c3 all all mA m3 HMA.out HM3.out true (by simp) _ HSA.out HS3.out).mono ?_
        rintro r w8 ⟨rfl, k8⟩
        replace HK := Lib.hid (HK.out.trans k8)
        clear k8
        dsimp only
        go_wp2
        exact bodyPost_ret (v := .bool true) (by simp [results, Tryd.results3, go_sem]) rfl ⟨rfl, HK.out⟩
      · have i2 : (k : Int) < 70 := by omega
        have r0 := HWB.out.b.cell 0
        have r1 := HWB.out.b.cell 1
        go_upto_if 69 with (fail)
        go_cut [3] (fun tn wx => ∃ (now2 : Int) (Q2 : Po) (a8 : Option Addr) (c8 n8 : Nat) (V8 : List SV), tn = .int .i64 now2 ∧ Hid (MidI next ys k now1 now2 Q2) ∧ Hid (WalkB w (w4.alloc (.cells #[.slice a4 n4 c4, .int .i64 (next + 1)] 24)) wx w4.heap.size u15 all #[.slice a8 n8 c8, .int .i64 Q2.next]) ∧ Hid (PoolV wx a8 c8 V8 Q2) ∧ Hid (V8.length = n8))
        case first =>
          by_cases hlt : (k : Int) < (M : Int)
          · have hkM : k < (ls.take 40).length := by rw [HML.out]; omega
            obtain ⟨z, hz⟩ : ∃ z, (ls.take 40)[k] = z := ⟨_, rfl⟩
            obtain ⟨b, off, rfl, hb, hat2⟩ := HLA.out.at_ (by intro h; rw [h] at hkM; simp at hkM)
            have cz := hat2 k hkM
            rw [hz] at cz
            rw [← HWB.out.k.cell (by exact hb) (by simp)] at cz
            have i5 : (0 : Int) ≤ (k : Int) := by omega
            obtain ⟨X, hX⟩ : ∃ X : Int, (if z < 0 then (0 : Int) else z) = X := ⟨_, rfl⟩
            obtain ⟨D, hD⟩ : ∃ D : Int, (if (999 : Int) < X then (999 : Int) else X) = D := ⟨_, rfl⟩
            have hD0 : 0 ≤ D ∧ D ≤ 999 := by rw [← hD, ← hX]; constructor <;> (repeat' split) <;> omega
            have HMID := Lib.hid (HWI.out.wait hk hD0.1 hD0.2)
            have j0 : wrap64 (now1 + D) = now1 + D := by have h1 := HWI.out.bound; have h2 := HWI.out.met.t0; exact IntWalk.wrap64_in _ ⟨by omega, by omega⟩
            clear hz hb hat2 hkM hD0
            go_upto_if 83 with (fail)
            obtain ⟨⟨q, cur, err⟩, hq⟩ : ∃ x, pinA Q [sOther] (now1 + D) = x := ⟨_, rfl⟩
            have HQ := Lib.hid hq
            clear hq
            go_wp2_with (fail)
            · have k0 := (Keeps.refl [] wr).alloc (.cells #[.string sOther] 9)
              refine (pin_any a7 c7 V7 Q n7 HN7.out (some ⟨wr.heap.size, 0, none⟩) 1 1 [sOther] rfl (now1 + D) _ (HP7.out.keeps k0) (strV_new wr [sOther] (by decide) (by decide)) e (HE00.out.keep (HWB.out.k.trans k0)) q cur err HQ.out).mono ?_
              rintro r w8 ⟨a8, n8, c8, V8, rfl, hn8, hP8, k8⟩
              have k8' := (k0.trans k8).alloc (.cells #[.slice a8 n8 c8, .int .i64 q.next] 24)
              have HW8 := Lib.hid (HWB.out.calm k8')
              have HP7' := Lib.hid (HP7.out.keeps k8')
              have HP8 := Lib.hid (hP8.keeps ((Keeps.refl [] w8).alloc (.cells #[.slice a8 n8 c8, .int .i64 q.next] 24)))
              have HB8 := Lib.hid (Blk.new w8 24 #[.slice a8 n8 c8, .int .i64 q.next])
              have HN8 := Lib.hid hn8
              clear k0 k8 k8' hn8 hP8 cz r0 r1
              dsimp only
              have r0 := HW8.out.b.cell 0
              have r1 := HW8.out.b.cell 1
              have f0 := HW8.out.b.frozen 0
              have f1 := HW8.out.b.frozen 1
              have g0 := HB8.out.cell 0
              have g1 := HB8.out.cell 1
              rcases pin_cases HQ.out with ⟨rfl, rfl, rfl⟩ | ⟨hmet, hit, hnx, hqq, rfl, rfl⟩
              · clear HQ
                go_wp2
                go_meet
                exact ⟨now1 + D, Q, a7, c7, n7, V7, congrArg (Value.int .i64) j0, HMID, HW8, HP7', HN7⟩
              · have HMP := Lib.hid (HMID.out.pin HWI.out.last [sOther] other_items hnx)
                rw [← hqq] at HMP
                have HWF := Lib.hid (HW8.out.put HLE.out HQL.out (.slice a8 n8 c8) (.int .i64 q.next))
                have HPF := Lib.hid ((HP8.out.far HW8.out.b 0 (.slice a8 n8 c8)).far (HW8.out.b.set_ 0 _) 1 (.int .i64 q.next))
                clear HQ hmet hit hnx hqq HMID HP7' HP8
                go_wp2
                go_meet
                exact ⟨now1 + D, q, a8, c8, n8, V8, congrArg (Value.int .i64) j0, HMP, HWF, HPF, HN8⟩
            · go_meet
              exact ⟨now1 + D, Q, a7, c7, n7, V7, congrArg (Value.int .i64) j0, HMID, HWB, HP7, HN7⟩
          · go_wp2
            go_meet
            exact ⟨now1, Q, a7, c7, n7, V7, rfl, Lib.hid (by have := HWI.out.wait hk (Int.le_refl 0) (by omega); rwa [Int.add_zero] at this), HWB, HP7, HN7⟩
        case rest =>
          obtain ⟨now2, Q2, a8, c8, n8, V8, rfl, HMI, HWC, HP8, HN8⟩ := hcut
          obtain ⟨R, pg, nx, hpg, hlen, hnext⟩ := HMI.out.page HWI.out HN10.out hat
          have HPG := Lib.hid hpg
          have HLEN := Lib.hid hlen
          have HNEXT := Lib.hid hnext
          have HAL : Hid (all.length ≤ 1000000) := Lib.hid (by have h1 := HWI.out.len; rcases HWI.out.is with ⟨_, h2⟩ | ⟨_, _, h2⟩ <;> rw [h2] <;> first | omega | (rw [List.length_take]; omega))
          clear hpg hlen hnext r0 r1
          have r0 := HWC.out.b.cell 0
          have r1 := HWC.out.b.cell 1
          go_wp2_with (fail)
          refine (page_fr a8 c8 V8 Q2 n8 HN8.out next at_ N now2 wc HP8.out e (HE00.out.keep HWC.out.k) R pg nx 0 HPG.out).mono ?_
          rintro r w9 ⟨a9, n9, c9, V9, pa9, m9, pc9, rfl, hn9, hP9, hm9, hs9, k9, hf9, hfp9⟩
          have k9' := k9.alloc (.cells #[.slice a9 n9 c9, .int .i64 R.next] 24)
          have ka := (Keeps.refl [] w9).alloc (.cells #[.slice a9 n9 c9, .int .i64 R.next] 24)
          have HWD := Lib.hid (HWC.out.calm k9')
          have hb9 := Blk.new w9 24 #[.slice a9 n9 c9, .int .i64 R.next]
          obtain ⟨va9, w10, hrun, hw10, hk10⟩ := HWD.out.app HLL.out HQL.out (hs9.keeps ka) HAL.out 25
          rw [hm9] at hrun
          have hlow : ∀ k ∈ u15.ownBlock.toList, k < wc.heap.size ∧ ∃ cs, Blk (w9.alloc (.cells #[.slice a9 n9 c9, .int .i64 R.next] 24)) k 9 cs := fun k hk2 => ⟨(own_lt HWC.out.own (by simpa using hk2)).2.1, (own_lt HWD.out.own (by simpa using hk2)).2.2⟩
          have hP10 := (hP9.keeps ka).apart hf9 hk10 hlow
          have hb10 := hb9.keeps hk10 (fun hm => by have h1 := (hlow _ hm).1; have h2 := k9.size; omega)
          have HP10 := Lib.hid hP10
          have HB10 := Lib.hid hb10
          have HW10 := Lib.hid hw10
          have HN9 := Lib.hid hn9
          have i4 : ¬ (N : Int) < (m9 : Int) := by have := HLEN.out; rw [hm9] at this; omega
          clear r0 r1
          have r0 := HWD.out.b.cell 0
          have r1 := HWD.out.b.cell 1
          replace r0 := HW10.out.b.cell 0
          replace r1 := HW10.out.b.cell 1
          have f0 := HW10.out.b.frozen 0
          have f1 := HW10.out.b.frozen 1
          have g0 := HB10.out.cell 0
          have g1 := HB10.out.cell 1
          have HWF := Lib.hid (HW10.out.put HLE.out HQL.out (.slice a9 n9 c9) (.int .i64 R.next))
          have HPF := Lib.hid ((HP10.out.far HW10.out.b 0 (.slice a9 n9 c9)).far (HW10.out.b.set_ 0 _) 1 (.int .i64 R.next))
          clear k9 k9' ka hb9 hP9 hP10 hb10 hw10 hk10 hlow hf9 hfp9 hs9 hm9 hn9 HPG
          dsimp only
          go_wp2_with (at_builtin; refine wpList_append_run _ rfl _ _ 25 rfl rfl rfl hrun ?_)
          go_roundw
          case rel => exact ⟨k + 1, now2, nx, all ++ pg, R, a9, c9, n9, V9, by omega, rfl, rfl, by go_num, HNEXT, HWF, HPF, HN9⟩
          case measure => (simp [intOf]; omega)
end Go.Proofs.YtbcppmcjbcnlbaaDoor
