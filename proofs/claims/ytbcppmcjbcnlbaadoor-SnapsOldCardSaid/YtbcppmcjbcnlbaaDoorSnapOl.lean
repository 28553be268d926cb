/- The walk of the law SnapsOld. -/
import Derived.Test.YtbcppmcjbcnlbaaDoorSnapX
import Derived.Test.YtbcppmcjbcnlbaaDoorSnapWB
namespace Go.Proofs.YtbcppmcjbcnlbaaDoor
open Go.RowKit Go.Shelf
attribute [local go_sem ↓] Go.wp_at_zero Go.wp_at_succ

/-- Between the rounds. -/
structure OldW (w wr : World) (qb : Nat) (e : Nat → Addr) (a3 : Option Addr) (c3 : Nat) (xs : List ByteArray) (a : Option Addr) (c n : Nat) (V : List SV) (q : Po) : Prop where
  b : Blk wr qb 24 #[.slice a n c, .int .i64 q.next]
  p : PoolV wr a c V q
  n : V.length = n
  e : Env wr e
  s : StrsV wr a3 c3 xs
  k : Keeps [] w wr
theorem OldW.next {w wr w1 : World} {qb : Nat} {e : Nat → Addr} {a3 : Option Addr} {c3 : Nat} {xs : List ByteArray} {a : Option Addr} {c n : Nat} {V : List SV} {q : Po} (h : OldW w wr qb e a3 c3 xs a c n V q) (he : Env w e) (hq : w.heap.size ≤ qb) (hk : Keeps [] wr w1)
    {a' : Option Addr} {c' n' : Nat} {V' : List SV} {q' : Po} (hp : PoolV w1 a' c' V' q') (hn : V'.length = n') :
    OldW w ((w1.setCell ⟨qb, 0, none⟩ (.slice a' n' c')).setCell ⟨qb, 1, none⟩ (.int .i64 q'.next)) qb e a3 c3 xs a' c' n' V' q' := by
  have hb := h.b.keeps hk (by simp)
  have hkw := keeps_box (v0 := .slice a' n' c') (v1 := .int .i64 q'.next) (h.k.trans hk) hq
  have hks : Keeps [qb] w1 ((w1.setCell ⟨qb, 0, none⟩ (.slice a' n' c')).setCell ⟨qb, 1, none⟩ (.int .i64 q'.next)) := ((Keeps.refl [qb] w1).setCell (p := ⟨qb, 0, none⟩) (.inl (by simp)) _).setCell (p := ⟨qb, 1, none⟩) (.inl (by simp)) _
  exact ⟨(hb.set_ 0 _).set_ 1 _, (hp.far hb 0 _).far (hb.set_ 0 _) 1 _, hn, he.keep hkw, (h.s.keeps hk).keepsS hks (pool_nostr hb), hkw⟩

set_option maxRecDepth 100000 in
set_option maxHeartbeats 8000000 in
theorem oldlaw_any (a : Option Addr) (c : Nat) (V : List SV) (L : List Sn) (n : Nat) (hn : V.length = n) (next : Int) (ia : Option Addr) (ic m : Nat) (xs : List ByteArray) (hm : xs.length = m) (now : Int) (others : Bool) (w : World) (hP : PoolArg w a V L) (hI : StrsArg w ia xs) (e : Nat → Addr) (he : Env w e) :
    Calls Tryd.prog 5 #[.agg #[.slice a n c, .int .i64 next], .slice ia m ic, .int .i64 now, .bool others] w fun r w' => r = .returned (.bool true) ∧ Keeps [] w w' := by
  have HI := Lib.hid hI
  have HM := Lib.hid hm
  have HE00 := Lib.hid he
  clear hI hm
  have HP := Lib.hid hP
  have HN := Lib.hid hn
  have k0 := (Keeps.refl [] w).alloc (.cells #[.slice a n c, .int .i64 next] 24)
  have HK := Lib.hid k0
  have HE0 := Lib.hid he
  have HE := Lib.hid (he.keep k0)
  have HB := Lib.hid (Blk.new w 24 #[.slice a n c, .int .i64 next])
  clear hP hn he k0
  go_enter Tryd.func5, Tryd.ntmps5
  go_wp2_with (fail)
  refine (shown_any _ e HE.out).mono ?_
  rintro r w1 ⟨rfl, k1⟩
  replace HK := Lib.hid (HK.out.trans k1)
  replace HE := Lib.hid (HE.out.keep k1)
  replace HB := Lib.hid (HB.out.keeps k1 (by simp))
  clear k1
  replace q0 := HB.out.cell 0
  replace q1 := HB.out.cell 1
  go_wp2_with (fail)
  refine (cut_any a c V L n HN.out next w1 (HP.out.keeps HK.out)).mono ?_
  rintro r w2 ⟨a2, n2, c2, V2, rfl, hn2, hP2, k2⟩
  have hb2 := HB.out.keeps k2 (by simp)
  replace q0 := hb2.cell 0
  replace q1 := hb2.cell 1
  have f0 := hb2.frozen 0
  have f1 := hb2.frozen 1
  replace HB := Lib.hid ((hb2.set_ 0 (.slice a2 n2 c2)).set_ 1 (.int .i64 next))
  have HP2 := Lib.hid ((hP2.far hb2 0 (.slice a2 n2 c2)).far (hb2.set_ 0 (.slice a2 n2 c2)) 1 (.int .i64 next))
  have k2' := keeps_box (b := w.heap.size) (v0 := .slice a2 n2 c2) (v1 := .int .i64 next) (HK.out.trans k2) (Nat.le_refl _)
  replace HE := Lib.hid (HE0.out.keep k2')
  replace HK := Lib.hid k2'
  have HN2 := Lib.hid hn2
  clear k2 k2' hb2 hP2 hn2
  go_wp2_with (fail)
  refine (items_any ia ic xs m HM.out _ (HI.out.keeps HK.out)).mono ?_
  rintro r w3 ⟨a3, m3, c3, rfl, hm3, hs3, k3⟩
  replace HK := Lib.hid (HK.out.trans k3)
  replace HE := Lib.hid (HE.out.keep k3)
  replace HB := Lib.hid (HB.out.keeps k3 (by simp))
  replace HP2 := Lib.hid (HP2.out.keeps k3)
  have HM3 := Lib.hid hm3
  have HS3 := Lib.hid hs3
  clear k3 hm3 hs3 f0 f1 HE0 HI HM HP HN
  replace q0 := HB.out.cell 0
  replace q1 := HB.out.cell 1
  dsimp only
  obtain ⟨ys, hys⟩ : ∃ ys, cutItems xs = ys := ⟨_, rfl⟩
  rw [hys] at HM3 HS3
  clear hys
  obtain ⟨⟨q, cur, err⟩, hq⟩ : ∃ x, pinA ⟨cutL L, next⟩ ys now = x := ⟨_, rfl⟩
  have HQ := Lib.hid hq
  clear hq
  go_wp2_with (fail)
  refine (pin_any a2 c2 V2 ⟨cutL L, next⟩ n2 HN2.out a3 c3 m3 ys HM3.out now _ HP2.out HS3.out e HE.out q cur err HQ.out).mono ?_
  rintro r w4 ⟨a4, n4, c4, V4, rfl, hn4, hP4, k4⟩
  have HK4s : Hid (w.heap.size ≤ w4.heap.size) := Lib.hid ((HK.out.trans k4).size)
  have k4' := k4.alloc (.cells #[.slice a4 n4 c4, .int .i64 q.next] 24)
  replace HK := Lib.hid (HK.out.trans k4')
  replace HE := Lib.hid (HE.out.keep k4')
  replace HB := Lib.hid (HB.out.keeps k4' (by simp))
  replace HP2 := Lib.hid (HP2.out.keeps k4')
  replace HS3 := Lib.hid (HS3.out.keeps k4')
  have HP4 := Lib.hid (hP4.keeps ((Keeps.refl [] w4).alloc (.cells #[.slice a4 n4 c4, .int .i64 q.next] 24)))
  have HB4 := Lib.hid (Blk.new w4 24 #[.slice a4 n4 c4, .int .i64 q.next])
  have HN4 := Lib.hid hn4
  clear k4 k4' hP4 hn4
  replace q0 := HB.out.cell 0
  replace q1 := HB.out.cell 1
  dsimp only
  rcases pin_cases HQ.out with ⟨rfl, rfl, rfl⟩ | ⟨hmet, hit, hnx, rfl, rfl, rfl⟩
  · clear HQ
    go_wp2
    exact bodyPost_ret (v := .bool true) (by simp [results, Tryd.results5, go_sem]) rfl ⟨rfl, HK.out⟩
  · clear HQ
    by_cases hbig : 1000000000 < now ∨ 1000000000 < next
    · clear hmet hit hnx
      rcases hbig with h1 | h1
      · go_wp2
        exact bodyPost_ret (v := .bool true) (by simp [results, Tryd.results5, go_sem]) rfl ⟨rfl, HK.out⟩
      · by_cases h2 : 1000000000 < now
        · go_wp2
          exact bodyPost_ret (v := .bool true) (by simp [results, Tryd.results5, go_sem]) rfl ⟨rfl, HK.out⟩
        · go_wp2
          exact bodyPost_ret (v := .bool true) (by simp [results, Tryd.results5, go_sem]) rfl ⟨rfl, HK.out⟩
    · have b1 : ¬ (1000000000 : Int) < now := fun h => hbig (.inl h)
      have b2 : ¬ (1000000000 : Int) < next := fun h => hbig (.inr h)
      have hO : OldI (Po.mk (cutL L) next).next now ys 0 _ := old_first hmet hit (by dsimp only; omega)
      dsimp only at hO HP4
      obtain ⟨l1, hl1⟩ : ∃ l1, pinL (cutL L) now = l1 := ⟨_, rfl⟩
      rw [hl1] at hO HP4
      have hap := hO.met.ok.ap
      have hmq := hO.met
      have h1 := page_end (s := ⟨next, ys, now⟩) (f := 0) (n := 1) (hmq.later (now' := now + 999) (by omega) (by have := hmet.t0; omega)) (by dsimp only; omega) (by omega) (by dsimp only; omega) (by omega) (by omega)
      have h2 : pageA _ next 0 1 (now + 1000) = (po0, [], 0, 161) := page_gone (hmq.later (now' := now + 1000) (by omega) (by have := hmet.t0; omega)) (by omega) (by omega) (fun t ht hc => by
        rcases List.mem_append.1 ht with ht | ht
        · exact absurd hc ((List.pairwise_append.1 hap).2.2 t ht ⟨next, ys, now⟩ (by simp))
        · obtain rfl := List.mem_singleton.1 ht
          dsimp only; omega)
      dsimp only at h1 h2
      obtain ⟨P1, hp1⟩ : ∃ P, l1 ++ [(⟨next, ys, now⟩ : Sn)] = P := ⟨_, rfl⟩
      have hfar : ∃ l9, l1 ++ [({ cur := next, items := ys, used := now + 999 } : Sn)] = l9 := ⟨_, rfl⟩
      obtain ⟨P9, hp9⟩ := hfar
      rw [hp1] at hO HP4 h1 h2
      rw [hp9] at h1
      have H1 := Lib.hid h1
      have H2 := Lib.hid h2
      clear h1 h2 hmq hap hp1 hp9
      have t0 := hmet.t0
      have HO := Lib.hid hO
      have HN0 : Hid (next < 1000000000000) := Lib.hid hnx
      clear hbig hmet hit hnx hO hl1
      replace q0 := HB.out.cell 0
      replace q1 := HB.out.cell 1
      replace r0 := HB4.out.cell 0
      replace r1 := HB4.out.cell 1
      rcases Bool.eq_false_or_eq_true others with rfl | rfl
      · have HLE := HK4s
        have HW : Hid (OldW w (w4.alloc (.cells #[.slice a4 n4 c4, .int .i64 (next + 1)] 24)) w4.heap.size e a3 c3 ys a4 c4 n4 V4 (Po.mk P1 (next + 1))) := Lib.hid ⟨HB4.out, HP4.out, HN4.out, HE.out, HS3.out, HK.out⟩
        clear H1 H2 HB4 HP4 HN4 HE HS3 HK HP2 HN2 HB HK4s
        go_wp2
        go_loopw [21] (fun i wr => ∃ (k : Nat) (a : Option Addr) (c n : Nat) (V : List SV) (Q : Po), k ≤ 3 ∧ i = .int .i64 k ∧ Hid (OldI next now ys k Q) ∧ Hid (OldW w wr w4.heap.size e a3 c3 ys a c n V Q)) (fun i _ => 3 - (intOf i).toNat)
        case atStart => exact ⟨0, a4, c4, n4, V4, _, Nat.zero_le _, rfl, HO, HW⟩
        case round =>
          obtain ⟨k, a7, c7, n7, V7, Q, hk3, rfl, HQ, HWr⟩ := hrel
          clear HO HW r0 r1 q0 q1
          have r0 := HWr.out.b.cell 0
          have r1 := HWr.out.b.cell 1
          have HB7 := Lib.hid HWr.out.b
          have HP7 := Lib.hid HWr.out.p
          have HE := Lib.hid HWr.out.e
          have HS3 := Lib.hid HWr.out.s
          have HKr := Lib.hid (Keeps.refl [] wr)
          have HN7 := Lib.hid HWr.out.n
          by_cases hk : k < 3
          · obtain ⟨⟨r0Q, pg, nx, hpg⟩, hpin, hnext⟩ := old_step HQ.out hk
            obtain ⟨P9, hp9⟩ : ∃ P, pinL Q.l now ++ [(⟨Q.next, ys, now⟩ : Sn)] = P := ⟨_, rfl⟩
            rw [hp9] at hpin hnext
            have HPG := Lib.hid hpg
            have HPI := Lib.hid hpin
            have HNX := Lib.hid hnext
            have i3 : (k : Int) < 3 := by omega
            have hd := HQ.out.c1
            have i4 : ¬ Q.next ≤ next := by omega
            skip
            clear hpg hpin hnext hd hp9
            go_wp2_with (fail)
            refine (page_any a7 c7 V7 Q n7 HN7.out next 0 1 now _ HP7.out e HE.out r0Q pg nx 0 HPG.out).mono ?_
            rintro r w8 ⟨a8, n8, c8, V8, pa8, m8, pc8, rfl, hn8, hP8, hm8, hs8, k8⟩
            have k8' := k8.alloc (.cells #[.slice a8 n8 c8, .int .i64 r0Q.next] 24)
            replace HKr := Lib.hid (HKr.out.trans k8')
            replace HE := Lib.hid (HE.out.keep k8')
            replace HB7 := Lib.hid (HB7.out.keeps k8' (by simp))
            replace HP7 := Lib.hid (HP7.out.keeps k8')
            replace HS3 := Lib.hid (HS3.out.keeps k8')
            have HP8 := Lib.hid (hP8.keeps ((Keeps.refl [] w8).alloc (.cells #[.slice a8 n8 c8, .int .i64 r0Q.next] 24)))
            have HB8 := Lib.hid (Blk.new w8 24 #[.slice a8 n8 c8, .int .i64 r0Q.next])
            have HN8 := Lib.hid hn8
            have HS8 := Lib.hid (hs8.keeps ((Keeps.refl [] w8).alloc (.cells #[.slice a8 n8 c8, .int .i64 r0Q.next] 24)))
            have HM8 := Lib.hid hm8
            clear k8 k8' hP8 hn8 hs8 hm8
            replace r0 := HB7.out.cell 0
            replace r1 := HB7.out.cell 1
            dsimp only
            clear HPG
            go_wp2_with (fail)
            refine (pin_any a7 c7 V7 Q n7 HN7.out a3 c3 m3 ys HM3.out now _ HP7.out HS3.out e HE.out (Po.mk P9 (Q.next + 1)) Q.next 0 HPI.out).mono ?_
            rintro r w9 ⟨a9, n9, c9, V9, rfl, hn9, hP9, k9⟩
            have k9' := k9.alloc (.cells #[.slice a9 n9 c9, .int .i64 (Po.mk P9 (Q.next + 1)).next] 24)
            replace HKr := Lib.hid (HKr.out.trans k9')
            replace HE := Lib.hid (HE.out.keep k9')
            replace HB7 := Lib.hid (HB7.out.keeps k9' (by simp))
            replace HP7 := Lib.hid (HP7.out.keeps k9')
            replace HS3 := Lib.hid (HS3.out.keeps k9')
            have HP9 := Lib.hid (hP9.keeps ((Keeps.refl [] w9).alloc (.cells #[.slice a9 n9 c9, .int .i64 (Po.mk P9 (Q.next + 1)).next] 24)))
            have HB9 := Lib.hid (Blk.new w9 24 #[.slice a9 n9 c9, .int .i64 (Po.mk P9 (Q.next + 1)).next])
            have HN9 := Lib.hid hn9
            clear k9 k9' hP9 hn9
            replace r0 := HB7.out.cell 0
            replace r1 := HB7.out.cell 1
            dsimp only
            have f0 := HB7.out.frozen 0
            have f1 := HB7.out.frozen 1
            have g0 := HB9.out.cell 0
            have g1 := HB9.out.cell 1
            have HW9 := Lib.hid (HWr.out.next HE00.out HLE.out HKr.out HP9.out HN9.out)
            dsimp only at HW9
            clear HPI HWr HKr HE HS3 HB7 HP7
            go_wp2
            go_roundw
            case rel => exact ⟨k + 1, a9, c9, n9, V9, _, by omega, by go_num, HNX, HW9⟩
            case measure => (simp [intOf]; omega)
          · obtain rfl : k = 3 := by omega
            have hg : pageA Q next 0 1 now = (po0, [], 0, 161) := page_gone HQ.out.met (by omega) (by omega) (fun t ht hc => HQ.out.is.elim (fun h => absurd h.1 (by omega)) (fun h => absurd hc (h.2 t ht)))
            have HG := Lib.hid hg
            have HK := Lib.hid HWr.out.k
            clear hg hk hk3
            go_wp2_with (fail)
            refine (page_any a7 c7 V7 Q n7 HN7.out next 0 1 now _ HP7.out e HE.out po0 [] 0 161 HG.out).mono ?_
            rintro r w8 ⟨a8, n8, c8, V8, pa8, m8, pc8, rfl, hn8, hP8, hm8, hs8, k8⟩
            have k8' := k8.alloc (.cells #[.slice a8 n8 c8, .int .i64 po0.next] 24)
            replace HK := Lib.hid (HK.out.trans k8')
            replace HE := Lib.hid (HE.out.keep k8')
            have HP8 := Lib.hid (hP8.keeps ((Keeps.refl [] w8).alloc (.cells #[.slice a8 n8 c8, .int .i64 po0.next] 24)))
            have HB8 := Lib.hid (Blk.new w8 24 #[.slice a8 n8 c8, .int .i64 po0.next])
            have HN8 := Lib.hid hn8
            have HS8 := Lib.hid (hs8.keeps ((Keeps.refl [] w8).alloc (.cells #[.slice a8 n8 c8, .int .i64 po0.next] 24)))
            have HM8 := Lib.hid hm8
            clear k8 k8' hP8 hn8 hs8 hm8
            dsimp only
            go_wp2
            exact bodyPost_ret (v := .bool true) (by simp [results, Tryd.results5, go_sem]) rfl ⟨rfl, HK.out⟩
      · clear HO HN0 HK4s HS3
        have j1 : wrap64 (now + 999) = now + 999 := IntWalk.wrap64_in _ ⟨by omega, by omega⟩
        have j2 : wrap64 (now + 1000) = now + 1000 := IntWalk.wrap64_in _ ⟨by omega, by omega⟩
        go_wp2_with (fail)
        refine (page_any a4 c4 V4 (Po.mk P1 (next + 1)) n4 HN4.out next 0 1 (now + 999) _ HP4.out e HE.out (Po.mk P9 (next + 1)) (pgL ys 0 1) (pgN ys 0 1) 0 H1.out).mono ?_
        rintro r w5 ⟨a5, n5, c5, V5, pa5, m5, pc5, rfl, hn5, hP5, hm5, hs5, k5⟩
        have k5' := k5.alloc (.cells #[.slice a5 n5 c5, .int .i64 (Po.mk P9 (next + 1)).next] 24)
        replace HK := Lib.hid (HK.out.trans k5')
        replace HE := Lib.hid (HE.out.keep k5')
        replace HB := Lib.hid (HB.out.keeps k5' (by simp))
        replace HP2 := Lib.hid (HP2.out.keeps k5')
        replace HP4 := Lib.hid (HP4.out.keeps k5')
        replace HB4 := Lib.hid (HB4.out.keeps k5' (by simp))
        have HP5 := Lib.hid (hP5.keeps ((Keeps.refl [] w5).alloc (.cells #[.slice a5 n5 c5, .int .i64 (Po.mk P9 (next + 1)).next] 24)))
        have HB5 := Lib.hid (Blk.new w5 24 #[.slice a5 n5 c5, .int .i64 (Po.mk P9 (next + 1)).next])
        have HN5 := Lib.hid hn5
        have HS5 := Lib.hid (hs5.keeps ((Keeps.refl [] w5).alloc (.cells #[.slice a5 n5 c5, .int .i64 (Po.mk P9 (next + 1)).next] 24)))
        have HM5 := Lib.hid hm5
        clear k5 k5' hP5 hn5 hs5 hm5
        replace q0 := HB.out.cell 0
        replace q1 := HB.out.cell 1
        replace r0 := HB4.out.cell 0
        replace r1 := HB4.out.cell 1
        dsimp only
        go_wp2_with (fail)
        refine (page_any a4 c4 V4 (Po.mk P1 (next + 1)) n4 HN4.out next 0 1 (now + 1000) _ HP4.out e HE.out po0 [] 0 161 H2.out).mono ?_
        rintro r w6 ⟨a6, n6, c6, V6, pa6, m6, pc6, rfl, hn6, hP6, hm6, hs6, k6⟩
        have k6' := k6.alloc (.cells #[.slice a6 n6 c6, .int .i64 po0.next] 24)
        replace HK := Lib.hid (HK.out.trans k6')
        replace HE := Lib.hid (HE.out.keep k6')
        replace HB := Lib.hid (HB.out.keeps k6' (by simp))
        replace HP2 := Lib.hid (HP2.out.keeps k6')
        replace HP4 := Lib.hid (HP4.out.keeps k6')
        replace HB4 := Lib.hid (HB4.out.keeps k6' (by simp))
        have HP6 := Lib.hid (hP6.keeps ((Keeps.refl [] w6).alloc (.cells #[.slice a6 n6 c6, .int .i64 po0.next] 24)))
        have HB6 := Lib.hid (Blk.new w6 24 #[.slice a6 n6 c6, .int .i64 po0.next])
        have HN6 := Lib.hid hn6
        have HS6 := Lib.hid (hs6.keeps ((Keeps.refl [] w6).alloc (.cells #[.slice a6 n6 c6, .int .i64 po0.next] 24)))
        have HM6 := Lib.hid hm6
        clear k6 k6' hP6 hn6 hs6 hm6
        replace q0 := HB.out.cell 0
        replace q1 := HB.out.cell 1
        replace r0 := HB4.out.cell 0
        replace r1 := HB4.out.cell 1
        dsimp only
        go_wp2
        exact bodyPost_ret (v := .bool true) (by simp [results, Tryd.results5, go_sem]) rfl ⟨rfl, HK.out⟩
end Go.Proofs.YtbcppmcjbcnlbaaDoor
