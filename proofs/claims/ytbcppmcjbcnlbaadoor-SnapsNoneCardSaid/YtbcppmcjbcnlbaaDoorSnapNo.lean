/- The walk of the law SnapsNone. -/
import Derived.Test.YtbcppmcjbcnlbaaDoorSnapX
import Derived.Test.YtbcppmcjbcnlbaaDoorSnapWB
namespace Go.Proofs.YtbcppmcjbcnlbaaDoor
open Go.RowKit Go.Shelf
attribute [local go_sem ↓] Go.wp_at_zero Go.wp_at_succ

set_option maxRecDepth 100000 in
set_option maxHeartbeats 8000000 in
theorem nonelaw_any (a : Option Addr) (c : Nat) (V : List SV) (L : List Sn) (n : Nat) (hn : V.length = n) (next : Int) (ia : Option Addr) (ic m : Nat) (xs : List ByteArray) (hm : xs.length = m) (now : Int) (w : World) (hP : PoolArg w a V L) (hI : StrsArg w ia xs) (e : Nat → Addr) (he : Env w e) :
    Calls Tryd.prog 7 #[.agg #[.slice a n c, .int .i64 next], .slice ia m ic, .int .i64 now] w fun r w' => r = .returned (.bool true) ∧ Keeps [] w w' := by
  have HI := Lib.hid hI
  have HM := Lib.hid hm
  clear hI hm
  have HP := Lib.hid hP
  have HN := Lib.hid hn
  have k0 := (Keeps.refl [] w).alloc (.cells #[.slice a n c, .int .i64 next] 24)
  have HK := Lib.hid k0
  have HE0 := Lib.hid he
  have HE := Lib.hid (he.keep k0)
  have HB := Lib.hid (Blk.new w 24 #[.slice a n c, .int .i64 next])
  clear hP hn he k0
  go_enter Tryd.func7, Tryd.ntmps7
  go_wp2_with (fail)
  refine (shown_any _ e HE.out).mono ?_
  rintro r w1 ⟨rfl, k1⟩
  replace HK := Lib.hid (HK.out.trans k1)
  replace HE := Lib.hid (HE.out.keep k1)
  replace HB := Lib.hid (HB.out.keeps k1 (by simp))
  clear k1
  replace q0 := HB.out.cell 0
  replace q1 := HB.out.cell 1
  go_wp2_with (fail)
  refine (cut_any a c V L n HN.out next w1 (HP.out.keeps HK.out)).mono ?_
  rintro r w2 ⟨a2, n2, c2, V2, rfl, hn2, hP2, k2⟩
  have hb2 := HB.out.keeps k2 (by simp)
  replace q0 := hb2.cell 0
  replace q1 := hb2.cell 1
  have f0 := hb2.frozen 0
  have f1 := hb2.frozen 1
  replace HB := Lib.hid ((hb2.set_ 0 (.slice a2 n2 c2)).set_ 1 (.int .i64 next))
  have HP2 := Lib.hid ((hP2.far hb2 0 (.slice a2 n2 c2)).far (hb2.set_ 0 (.slice a2 n2 c2)) 1 (.int .i64 next))
  have k2' := keeps_box (b := w.heap.size) (v0 := .slice a2 n2 c2) (v1 := .int .i64 next) (HK.out.trans k2) (Nat.le_refl _)
  replace HE := Lib.hid (HE0.out.keep k2')
  replace HK := Lib.hid k2'
  have HN2 := Lib.hid hn2
  clear k2 k2' hb2 hP2 hn2
  go_wp2_with (fail)
  refine (items_any ia ic xs m HM.out _ (HI.out.keeps HK.out)).mono ?_
  rintro r w3 ⟨a3, m3, c3, rfl, hm3, hs3, k3⟩
  replace HK := Lib.hid (HK.out.trans k3)
  replace HE := Lib.hid (HE.out.keep k3)
  replace HB := Lib.hid (HB.out.keeps k3 (by simp))
  replace HP2 := Lib.hid (HP2.out.keeps k3)
  have HM3 := Lib.hid hm3
  have HS3 := Lib.hid hs3
  clear k3 hm3 hs3 f0 f1 HE0 HI HM HP HN
  replace q0 := HB.out.cell 0
  replace q1 := HB.out.cell 1
  dsimp only
  obtain ⟨ys, hys⟩ : ∃ ys, cutItems xs = ys := ⟨_, rfl⟩
  rw [hys] at HM3 HS3
  clear hys
  obtain ⟨⟨q, cur, err⟩, hq⟩ : ∃ x, pinA ⟨cutL L, next⟩ [] now = x := ⟨_, rfl⟩
  have HQ := Lib.hid hq
  clear hq
  go_wp2_with (fail)
  refine (pin_any a2 c2 V2 ⟨cutL L, next⟩ n2 HN2.out none 0 0 [] rfl now _ HP2.out (strsV_nil _) e HE.out q cur err HQ.out).mono ?_
  rintro r w4 ⟨a4, n4, c4, V4, rfl, hn4, hP4, k4⟩
  have k4' := k4.alloc (.cells #[.slice a4 n4 c4, .int .i64 q.next] 24)
  replace HK := Lib.hid (HK.out.trans k4')
  replace HE := Lib.hid (HE.out.keep k4')
  replace HB := Lib.hid (HB.out.keeps k4' (by simp))
  replace HP2 := Lib.hid (HP2.out.keeps k4')
  replace HS3 := Lib.hid (HS3.out.keeps k4')
  have HP4 := Lib.hid (hP4.keeps ((Keeps.refl [] w4).alloc (.cells #[.slice a4 n4 c4, .int .i64 q.next] 24)))
  have HB4 := Lib.hid (Blk.new w4 24 #[.slice a4 n4 c4, .int .i64 q.next])
  have HN4 := Lib.hid hn4
  clear k4 k4' hP4 hn4
  replace q0 := HB.out.cell 0
  replace q1 := HB.out.cell 1
  dsimp only
  replace q0 := HB4.out.cell 0
  replace q1 := HB4.out.cell 1
  rcases pin_cases HQ.out with ⟨rfl, rfl, rfl⟩ | ⟨hmet, _, hnx, rfl, rfl, rfl⟩
  · clear HQ
    go_wp2
    exact bodyPost_ret (v := .bool true) (by simp [results, Tryd.results7, go_sem]) rfl ⟨rfl, HK.out⟩
  · have hmq := hmet.pin [] rfl hnx
    have hn1 := hmet.ok.n1
    dsimp only at hn1 hnx
    obtain ⟨l1, hl1⟩ : ∃ l1, pinL (cutL L) now = l1 := ⟨_, rfl⟩
    dsimp only at hmq HP4
    rw [hl1] at hmq HP4
    have hpg := page_end (f := 0) (n := 1) hmq (by dsimp only; omega) (by omega) (by simp) (by omega) (by omega)
    dsimp only at hpg
    rw [show pgL [] 0 1 = [] from rfl, show pgN [] 0 1 = -1 from rfl] at hpg
    obtain ⟨P1, hp1⟩ : ∃ P, l1 ++ [(⟨next, [], now⟩ : Sn)] = P := ⟨_, rfl⟩
    rw [hp1] at HP4 hpg
    have HPG := Lib.hid hpg
    clear HQ hmet hmq hpg hl1 hp1
    have j0 : wrap64 (next + 1) = next + 1 := IntWalk.wrap64_in _ ⟨by omega, by omega⟩
    have j1 : ((0 : Int) = 0) := rfl
    have hj : 1 ≤ next ∧ next < 1000000000000 := ⟨hn1, hnx⟩
    have HJ := Lib.hid hj
    clear hj hn1 hnx j1
    clear q0 q1
    replace r0 := HB4.out.cell 0
    replace r1 := HB4.out.cell 1
    go_wp2_with (fail)
    refine (page_any a4 c4 V4 ⟨P1, next + 1⟩ n4 HN4.out next 0 1 now _ HP4.out e HE.out (Po.mk P1 (next + 1)) [] (-1) 0 HPG.out).mono ?_
    rintro r w5 ⟨a5, n5, c5, V5, pa5, m5, pc5, rfl, hn5, hP5, hm5, hs5, k5⟩
    have k5' := k5.alloc (.cells #[.slice a5 n5 c5, .int .i64 (Po.mk P1 (next + 1)).next] 24)
    replace HK := Lib.hid (HK.out.trans k5')
    replace HE := Lib.hid (HE.out.keep k5')
    replace HS3 := Lib.hid (HS3.out.keeps k5')
    replace HP4 := Lib.hid (HP4.out.keeps k5')
    replace HB4 := Lib.hid (HB4.out.keeps k5' (by simp))
    have HP5 := Lib.hid (hP5.keeps ((Keeps.refl [] w5).alloc (.cells #[.slice a5 n5 c5, .int .i64 (Po.mk P1 (next + 1)).next] 24)))
    have HB5 := Lib.hid (Blk.new w5 24 #[.slice a5 n5 c5, .int .i64 (Po.mk P1 (next + 1)).next])
    have HN5 := Lib.hid hn5
    have HS5 := Lib.hid (hs5.keeps ((Keeps.refl [] w5).alloc (.cells #[.slice a5 n5 c5, .int .i64 (Po.mk P1 (next + 1)).next] 24)))
    have HM5 := Lib.hid hm5
    clear k5 k5' hP5 hn5 hs5 hm5
    replace r0 := HB4.out.cell 0
    replace r1 := HB4.out.cell 1
    dsimp only
    obtain rfl : m5 = 0 := by rw [← HM5.out]; rfl
    clear HPG
    obtain ⟨⟨q, cur, err⟩, hq⟩ : ∃ x, pinA ⟨P1, next + 1⟩ ys now = x := ⟨_, rfl⟩
    have HQ := Lib.hid hq
    clear hq
    go_wp2_with (fail)
    refine (pin_any a4 c4 V4 ⟨P1, next + 1⟩ n4 HN4.out a3 c3 m3 ys HM3.out now _ HP4.out HS3.out e HE.out q cur err HQ.out).mono ?_
    rintro r w6 ⟨a6, n6, c6, V6, rfl, hn6, hP6, k6⟩
    have k6' := k6.alloc (.cells #[.slice a6 n6 c6, .int .i64 q.next] 24)
    replace HK := Lib.hid (HK.out.trans k6')
    replace HE := Lib.hid (HE.out.keep k6')
    replace HS3 := Lib.hid (HS3.out.keeps k6')
    replace HP4 := Lib.hid (HP4.out.keeps k6')
    replace HB4 := Lib.hid (HB4.out.keeps k6' (by simp))
    have HP6 := Lib.hid (hP6.keeps ((Keeps.refl [] w6).alloc (.cells #[.slice a6 n6 c6, .int .i64 q.next] 24)))
    have HB6 := Lib.hid (Blk.new w6 24 #[.slice a6 n6 c6, .int .i64 q.next])
    have HN6 := Lib.hid hn6
    clear k6 k6' hP6 hn6
    replace r0 := HB4.out.cell 0
    replace r1 := HB4.out.cell 1
    dsimp only
    clear r0 r1
    replace r0 := HB6.out.cell 0
    replace r1 := HB6.out.cell 1
    rcases pin_cases HQ.out with ⟨rfl, rfl, rfl⟩ | ⟨hmet, hit, hnx, rfl, rfl, rfl⟩
    · clear HQ
      go_wp2
      exact bodyPost_ret (v := .bool true) (by simp [results, Tryd.results7, go_sem]) rfl ⟨rfl, HK.out⟩
    · have hmq := hmet.pin ys hit hnx
      dsimp only at hmq HP6
      obtain ⟨l2, hl2⟩ : ∃ l2, pinL P1 now = l2 := ⟨_, rfl⟩
      rw [hl2] at hmq HP6
      have hpg := page_end (f := 0) (n := 10) hmq (by dsimp only; omega) (by omega) (by dsimp only; omega) (by omega) (by omega)
      dsimp only at hpg
      rw [show (10 : Int) = ((10 : Nat) : Int) from rfl, pgL_zero, pgN_zero] at hpg
      obtain ⟨P2, hp2⟩ : ∃ P, l2 ++ [(⟨next + 1, ys, now⟩ : Sn)] = P := ⟨_, rfl⟩
      rw [hp2] at HP6 hpg
      clear HQ hmet hmq hl2 hnx hit hp2
      have hj := HJ.out
      by_cases hlen : ys.length ≤ 10
      · rw [if_pos hlen, List.take_of_length_le hlen] at hpg
        rw [HM3.out] at hlen
        have HPG := Lib.hid hpg
        have i0 : ¬ (10 : Int) < (m3 : Int) := by omega
        have i1 : (m3 : Int) ≤ 10 := by omega
        clear hlen hpg hj
        replace r0 := HB6.out.cell 0
        replace r1 := HB6.out.cell 1
        go_wp2_with (fail)
        refine (page_any a6 c6 V6 (Po.mk P2 (next + 1 + 1)) n6 HN6.out (next + 1) 0 ((10 : Nat) : Int) now _ HP6.out e HE.out (Po.mk P2 (next + 1 + 1)) ys (-1) 0 HPG.out).mono ?_
        rintro r w7 ⟨a7, n7, c7, V7, pa7, m7, pc7, rfl, hn7, hP7, hm7, hs7, k7⟩
        have k7' := k7.alloc (.cells #[.slice a7 n7 c7, .int .i64 (Po.mk P2 (next + 1 + 1)).next] 24)
        replace HK := Lib.hid (HK.out.trans k7')
        replace HE := Lib.hid (HE.out.keep k7')
        replace HS3 := Lib.hid (HS3.out.keeps k7')
        replace HP6 := Lib.hid (HP6.out.keeps k7')
        replace HB6 := Lib.hid (HB6.out.keeps k7' (by simp))
        have HP7 := Lib.hid (hP7.keeps ((Keeps.refl [] w7).alloc (.cells #[.slice a7 n7 c7, .int .i64 (Po.mk P2 (next + 1 + 1)).next] 24)))
        have HB7 := Lib.hid (Blk.new w7 24 #[.slice a7 n7 c7, .int .i64 (Po.mk P2 (next + 1 + 1)).next])
        have HN7 := Lib.hid hn7
        have HS7 := Lib.hid (hs7.keeps ((Keeps.refl [] w7).alloc (.cells #[.slice a7 n7 c7, .int .i64 (Po.mk P2 (next + 1 + 1)).next] 24)))
        have HM7 := Lib.hid hm7
        clear k7 k7' hP7 hn7 hs7 hm7
        replace r0 := HB6.out.cell 0
        replace r1 := HB6.out.cell 1
        dsimp only
        go_wp2_with (fail)
        refine (samestr_any pa7 a3 pc7 c3 ys ys m7 m3 HM7.out HM3.out true (by simp) _ HS7.out HS3.out).mono ?_
        rintro r w8 ⟨rfl, k8⟩
        replace HK := Lib.hid (HK.out.trans k8)
        replace HE := Lib.hid (HE.out.keep k8)
        replace HS3 := Lib.hid (HS3.out.keeps k8)
        replace HP6 := Lib.hid (HP6.out.keeps k8)
        replace HB6 := Lib.hid (HB6.out.keeps k8 (by simp))
        replace HS7 := Lib.hid (HS7.out.keeps k8)
        clear k8
        replace r0 := HB6.out.cell 0
        replace r1 := HB6.out.cell 1
        dsimp only
        go_wp2
        exact bodyPost_ret (v := .bool true) (by simp [results, Tryd.results7, go_sem]) rfl ⟨rfl, HK.out⟩
      · rw [if_neg hlen] at hpg
        have hl10 : (ys.take 10).length = 10 := by rw [List.length_take]; omega
        rw [HM3.out] at hlen
        obtain ⟨zs, hzs⟩ : ∃ zs, ys.take 10 = zs := ⟨_, rfl⟩
        rw [hzs] at hpg hl10
        have HL := Lib.hid hl10
        have HPG := Lib.hid hpg
        have i0 : (10 : Int) < (m3 : Int) := by omega
        clear hlen hpg hj hzs hl10
        replace r0 := HB6.out.cell 0
        replace r1 := HB6.out.cell 1
        go_wp2_with (fail)
        refine (page_any a6 c6 V6 (Po.mk P2 (next + 1 + 1)) n6 HN6.out (next + 1) 0 ((10 : Nat) : Int) now _ HP6.out e HE.out (Po.mk P2 (next + 1 + 1)) zs ((10 : Nat) : Int) 0 HPG.out).mono ?_
        rintro r w7 ⟨a7, n7, c7, V7, pa7, m7, pc7, rfl, hn7, hP7, hm7, hs7, k7⟩
        have k7' := k7.alloc (.cells #[.slice a7 n7 c7, .int .i64 (Po.mk P2 (next + 1 + 1)).next] 24)
        replace HK := Lib.hid (HK.out.trans k7')
        replace HE := Lib.hid (HE.out.keep k7')
        replace HS3 := Lib.hid (HS3.out.keeps k7')
        replace HP6 := Lib.hid (HP6.out.keeps k7')
        replace HB6 := Lib.hid (HB6.out.keeps k7' (by simp))
        have HP7 := Lib.hid (hP7.keeps ((Keeps.refl [] w7).alloc (.cells #[.slice a7 n7 c7, .int .i64 (Po.mk P2 (next + 1 + 1)).next] 24)))
        have HB7 := Lib.hid (Blk.new w7 24 #[.slice a7 n7 c7, .int .i64 (Po.mk P2 (next + 1 + 1)).next])
        have HN7 := Lib.hid hn7
        have HS7 := Lib.hid (hs7.keeps ((Keeps.refl [] w7).alloc (.cells #[.slice a7 n7 c7, .int .i64 (Po.mk P2 (next + 1 + 1)).next] 24)))
        have HM7 := Lib.hid hm7
        clear k7 k7' hP7 hn7 hs7 hm7
        replace r0 := HB6.out.cell 0
        replace r1 := HB6.out.cell 1
        dsimp only
        obtain rfl : m7 = 10 := by rw [← HM7.out]; exact HL.out
        go_wp2
        exact bodyPost_ret (v := .bool true) (by simp [results, Tryd.results7, go_sem]) rfl ⟨rfl, HK.out⟩
end Go.Proofs.YtbcppmcjbcnlbaaDoor
