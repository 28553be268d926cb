/- The walk of the law SnapsTurns. -/
import Derived.Test.YtbcppmcjbcnlbaaDoorSnapX
import Derived.Test.YtbcppmcjbcnlbaaDoorSnapRE
import Derived.Deep.RegionHeld3
namespace Go.Proofs.YtbcppmcjbcnlbaaDoor
open Go.RowKit Go.Shelf
attribute [local go_sem ↓] Go.wp_at_zero Go.wp_at_succ

theorem Keeps.read {w w' : World} (h : Keeps [] w w') {p : Addr} {v : Value} (hc : w.cell? p = some v) : w'.cell? p = some v := by
  have hl : p.block < w.heap.size := by
    apply Decidable.byContradiction
    intro hn
    have : w.heap[p.block]? = none := Array.getElem?_eq_none (by omega)
    unfold World.cell? at hc
    simp [this] at hc
  exact (h.cell hl (by simp)).trans hc
theorem held12 {w w' w'' : World} (hk : Keeps [] w' w'') {p0 p1 p2 p3 p4 p5 p6 p7 p8 p9 p10 p11 : Addr} {v0 v1 v2 v3 v4 v5 v6 v7 v8 v9 v10 v11 : Value} (h : Keeps [] w w' ∧ w'.cell? p0 = some v0 ∧ w'.cell? p1 = some v1 ∧ w'.cell? p2 = some v2 ∧ w'.cell? p3 = some v3 ∧ w'.cell? p4 = some v4 ∧ w'.cell? p5 = some v5 ∧ w'.cell? p6 = some v6 ∧ w'.cell? p7 = some v7 ∧ w'.cell? p8 = some v8 ∧ w'.cell? p9 = some v9 ∧ w'.cell? p10 = some v10 ∧ w'.cell? p11 = some v11) : Keeps [] w w'' ∧ w''.cell? p0 = some v0 ∧ w''.cell? p1 = some v1 ∧ w''.cell? p2 = some v2 ∧ w''.cell? p3 = some v3 ∧ w''.cell? p4 = some v4 ∧ w''.cell? p5 = some v5 ∧ w''.cell? p6 = some v6 ∧ w''.cell? p7 = some v7 ∧ w''.cell? p8 = some v8 ∧ w''.cell? p9 = some v9 ∧ w''.cell? p10 = some v10 ∧ w''.cell? p11 = some v11 := by
  obtain ⟨h, h0, h1, h2, h3, h4, h5, h6, h7, h8, h9, h10, h11⟩ := h
  exact ⟨h.trans hk, hk.read h0, hk.read h1, hk.read h2, hk.read h3, hk.read h4, hk.read h5, hk.read h6, hk.read h7, hk.read h8, hk.read h9, hk.read h10, hk.read h11⟩

set_option maxRecDepth 100000 in
set_option maxHeartbeats 8000000 in
theorem turnslaw_any (a : Option Addr) (c : Nat) (V : List SV) (L : List Sn) (n : Nat) (hn : V.length = n) (next : Int) (aq : Option Addr) (cq : Nat) (Vq : List SV) (Lq : List Sn) (nq : Nat) (hnq : Vq.length = nq) (nextq : Int) (ia : Option Addr) (ic m : Nat) (xs : List ByteArray) (hm : xs.length = m) (cursor from_ num now : Int) (w : World) (hP : PoolArg w a V L) (hPq : PoolArg w aq Vq Lq) (hI : StrsArg w ia xs) (e : Nat → Addr) (he : Env w e) :
    Calls Tryd.prog 8 #[.agg #[.slice a n c, .int .i64 next], .agg #[.slice aq nq cq, .int .i64 nextq], .slice ia m ic, .int .i64 cursor, .int .i64 from_, .int .i64 num, .int .i64 now] w fun r w' => r = .returned (.bool true) ∧ Keeps [] w w' := by
  have HI := Lib.hid hI
  have HM := Lib.hid hm
  have HPA := Lib.hid hP
  have HPQA := Lib.hid hPq
  have HN := Lib.hid hn
  have HNQA := Lib.hid hnq
  have k0 := ((Keeps.refl [] w).alloc (.cells #[.slice a n c, .int .i64 next] 24)).alloc (.cells #[.slice aq nq cq, .int .i64 nextq] 24)
  have HK := Lib.hid k0
  have HE0 := Lib.hid he
  have HE := Lib.hid (he.keep k0)
  have HB := Lib.hid ((Blk.new w 24 #[.slice a n c, .int .i64 next]).alloc (.cells #[.slice aq nq cq, .int .i64 nextq] 24))
  have HBQ := Lib.hid (blk_at (w.alloc (.cells #[.slice a n c, .int .i64 next] 24)) 24 #[.slice aq nq cq, .int .i64 nextq] (w.heap.size + 1) (by simp))
  clear hI hm hP hPq hn hnq he k0
  go_enter Tryd.func8, Tryd.ntmps8
  go_wp2_with (fail)
  refine (shown_any _ e HE.out).mono ?_
  rintro r w1 ⟨rfl, k1⟩
  replace HK := Lib.hid (HK.out.trans k1)
  replace HE := Lib.hid (HE.out.keep k1)
  replace HB := Lib.hid (HB.out.keeps k1 (by simp))
  replace HBQ := Lib.hid (HBQ.out.keeps k1 (by simp))
  clear k1
  replace q0 := HB.out.cell 0
  replace q1 := HB.out.cell 1
  replace y0 := HBQ.out.cell 0
  replace y1 := HBQ.out.cell 1
  go_wp2_with (fail)
  refine (cut_any a c V L n HN.out next w1 (HPA.out.keeps HK.out)).mono ?_
  rintro r w2 ⟨a2, n2, c2, V2, rfl, hn2, hP2, k2⟩
  have hb2 := HB.out.keeps k2 (by simp)
  replace q0 := hb2.cell 0
  replace q1 := hb2.cell 1
  have f0 := hb2.frozen 0
  have f1 := hb2.frozen 1
  replace HB := Lib.hid ((hb2.set_ 0 (.slice a2 n2 c2)).set_ 1 (.int .i64 next))
  have HP2 := Lib.hid ((hP2.far hb2 0 (.slice a2 n2 c2)).far (hb2.set_ 0 (.slice a2 n2 c2)) 1 (.int .i64 next))
  replace HBQ := Lib.hid (((HBQ.out.keeps k2 (by simp)).far (p := ⟨w.heap.size, 0, none⟩) (by dsimp only; omega) (.slice a2 n2 c2)).far (p := ⟨w.heap.size, 1, none⟩) (by dsimp only; omega) (.int .i64 next))
  have k2' := keeps_box (b := w.heap.size) (v0 := .slice a2 n2 c2) (v1 := .int .i64 next) (HK.out.trans k2) (Nat.le_refl _)
  replace HE := Lib.hid (HE0.out.keep k2')
  replace HK := Lib.hid k2'
  have HN2 := Lib.hid hn2
  replace y0 := HBQ.out.cell 0
  replace y1 := HBQ.out.cell 1
  clear k2 k2' hb2 hP2 hn2
  go_wp2_with (fail)
  refine (cut_any aq cq Vq Lq nq HNQA.out nextq _ (HPQA.out.keeps HK.out)).mono ?_
  rintro r w3 ⟨a3, n3, c3, V3, rfl, hn3, hP3, k3⟩
  have hb3 := HBQ.out.keeps k3 (by simp)
  clear f0 f1
  replace y0 := hb3.cell 0
  replace y1 := hb3.cell 1
  have f0 := hb3.frozen 0
  have f1 := hb3.frozen 1
  have HPQ := Lib.hid ((hP3.far hb3 0 (.slice a3 n3 c3)).far (hb3.set_ 0 (.slice a3 n3 c3)) 1 (.int .i64 nextq))
  replace HP2 := Lib.hid (((HP2.out.keeps k3).far hb3 0 (.slice a3 n3 c3)).far (hb3.set_ 0 (.slice a3 n3 c3)) 1 (.int .i64 nextq))
  replace HB := Lib.hid (((HB.out.keeps k3 (by simp)).far (p := ⟨w.heap.size + 1, 0, none⟩) (by dsimp only; omega) (.slice a3 n3 c3)).far (p := ⟨w.heap.size + 1, 1, none⟩) (by dsimp only; omega) (.int .i64 nextq))
  replace HBQ := Lib.hid ((hb3.set_ 0 (.slice a3 n3 c3)).set_ 1 (.int .i64 nextq))
  have k3' := keeps_box (b := w.heap.size + 1) (v0 := .slice a3 n3 c3) (v1 := .int .i64 nextq) (HK.out.trans k3) (by omega)
  replace HE := Lib.hid (HE0.out.keep k3')
  replace HK := Lib.hid k3'
  have HNQ := Lib.hid hn3
  clear k3 k3' hb3 hP3 hn3 q0 q1
  replace q0 := HB.out.cell 0
  replace q1 := HB.out.cell 1
  go_wp2_with (fail)
  refine (items_any ia ic xs m HM.out _ (HI.out.keeps HK.out)).mono ?_
  rintro r w4 ⟨a4, m4, c4, rfl, hm4, hs4, k4⟩
  replace HK := Lib.hid (HK.out.trans k4)
  replace HE := Lib.hid (HE.out.keep k4)
  replace HB := Lib.hid (HB.out.keeps k4 (by simp))
  replace HBQ := Lib.hid (HBQ.out.keeps k4 (by simp))
  replace HP2 := Lib.hid (HP2.out.keeps k4)
  replace HPQ := Lib.hid (HPQ.out.keeps k4)
  have HM4 := Lib.hid hm4
  have HS4 := Lib.hid hs4
  clear k4 hm4 hs4 f0 f1 HE0 HI HM HPA HPQA HN HNQA y0 y1 q0 q1
  replace q0 := HB.out.cell 0
  replace q1 := HB.out.cell 1
  replace y0 := HBQ.out.cell 0
  replace y1 := HBQ.out.cell 1
  dsimp only
  obtain ⟨ys, hys⟩ : ∃ ys, cutItems xs = ys := ⟨_, rfl⟩
  rw [hys] at HM4 HS4
  clear hys
  obtain ⟨lp, hlp⟩ : ∃ lp, cutL L = lp := ⟨_, rfl⟩
  obtain ⟨lq, hlq⟩ : ∃ lq, cutL Lq = lq := ⟨_, rfl⟩
  rw [hlp] at HP2
  rw [hlq] at HPQ
  clear hlp hlq
  obtain ⟨⟨q, cur, err⟩, hq⟩ : ∃ x, pinA ⟨lp, next⟩ ys now = x := ⟨_, rfl⟩
  have HQ := Lib.hid hq
  clear hq
  obtain ⟨⟨g, page, nx, err2⟩, hg⟩ : ∃ x, pageA ⟨lp, next⟩ cursor from_ num now = x := ⟨_, rfl⟩
  have HG := Lib.hid hg
  clear hg
  go_wp2_with (fail)
  refine (pin_any a2 c2 V2 ⟨lp, next⟩ n2 HN2.out a4 c4 m4 ys HM4.out now _ HP2.out HS4.out e HE.out q cur err HQ.out).mono ?_
  rintro r w5 ⟨a5, n5, c5, V5, rfl, hn5, hP5, k5⟩
  have k5' := k5.alloc (.cells #[.slice a5 n5 c5, .int .i64 q.next] 24)
  replace HK := Lib.hid (HK.out.trans k5')
  replace HE := Lib.hid (HE.out.keep k5')
  replace HB := Lib.hid (HB.out.keeps k5' (by simp))
  replace HBQ := Lib.hid (HBQ.out.keeps k5' (by simp))
  replace HP2 := Lib.hid (HP2.out.keeps k5')
  replace HPQ := Lib.hid (HPQ.out.keeps k5')
  replace HS4 := Lib.hid (HS4.out.keeps k5')
  have HP5 := Lib.hid (hP5.keeps ((Keeps.refl [] w5).alloc (.cells #[.slice a5 n5 c5, .int .i64 q.next] 24)))
  have HB5 := Lib.hid (Blk.new w5 24 #[.slice a5 n5 c5, .int .i64 q.next])
  have HN5 := Lib.hid hn5
  clear k5 k5' hP5 hn5
  replace q0 := HB.out.cell 0
  replace q1 := HB.out.cell 1
  replace y0 := HBQ.out.cell 0
  replace y1 := HBQ.out.cell 1
  dsimp only
  go_wp2_with (fail)
  refine (pin16_any a2 c2 V2 lp next n2 HN2.out a4 c4 m4 ys HM4.out now _ HP2.out HS4.out q cur err HQ.out).mono ?_
  rintro r w6 ⟨a6, n6, c6, V6, rfl, hn6, hP6, k6⟩
  have k6' := k6.alloc (.cells #[.slice a6 n6 c6, .int .i64 q.next] 24)
  replace HK := Lib.hid (HK.out.trans k6')
  replace HE := Lib.hid (HE.out.keep k6')
  replace HB := Lib.hid (HB.out.keeps k6' (by simp))
  replace HBQ := Lib.hid (HBQ.out.keeps k6' (by simp))
  replace HP2 := Lib.hid (HP2.out.keeps k6')
  replace HPQ := Lib.hid (HPQ.out.keeps k6')
  replace HS4 := Lib.hid (HS4.out.keeps k6')
  replace HP5 := Lib.hid (HP5.out.keeps k6')
  replace HB5 := Lib.hid (HB5.out.keeps k6' (by simp))
  have HP6 := Lib.hid (hP6.keeps ((Keeps.refl [] w6).alloc (.cells #[.slice a6 n6 c6, .int .i64 q.next] 24)))
  have HB6 := Lib.hid (Blk.new w6 24 #[.slice a6 n6 c6, .int .i64 q.next])
  have HN6 := Lib.hid hn6
  clear k6 k6' hP6 hn6
  replace q0 := HB.out.cell 0
  replace q1 := HB.out.cell 1
  replace y0 := HBQ.out.cell 0
  replace y1 := HBQ.out.cell 1
  dsimp only
  go_wp2_with (fail)
  refine (page_any a2 c2 V2 ⟨lp, next⟩ n2 HN2.out cursor from_ num now _ HP2.out e HE.out g page nx err2 HG.out).mono ?_
  rintro r w7 ⟨a7, n7, c7, V7, pa7, m7, pc7, rfl, hn7, hP7, hm7, hs7, k7⟩
  have k7' := k7.alloc (.cells #[.slice a7 n7 c7, .int .i64 g.next] 24)
  replace HK := Lib.hid (HK.out.trans k7')
  replace HE := Lib.hid (HE.out.keep k7')
  replace HB := Lib.hid (HB.out.keeps k7' (by simp))
  replace HBQ := Lib.hid (HBQ.out.keeps k7' (by simp))
  replace HP2 := Lib.hid (HP2.out.keeps k7')
  replace HPQ := Lib.hid (HPQ.out.keeps k7')
  replace HS4 := Lib.hid (HS4.out.keeps k7')
  replace HP5 := Lib.hid (HP5.out.keeps k7')
  replace HB5 := Lib.hid (HB5.out.keeps k7' (by simp))
  replace HP6 := Lib.hid (HP6.out.keeps k7')
  replace HB6 := Lib.hid (HB6.out.keeps k7' (by simp))
  have HP7 := Lib.hid (hP7.keeps ((Keeps.refl [] w7).alloc (.cells #[.slice a7 n7 c7, .int .i64 g.next] 24)))
  have HB7 := Lib.hid (Blk.new w7 24 #[.slice a7 n7 c7, .int .i64 g.next])
  have HN7 := Lib.hid hn7
  have HS7 := Lib.hid (hs7.keeps ((Keeps.refl [] w7).alloc (.cells #[.slice a7 n7 c7, .int .i64 g.next] 24)))
  have HM7 := Lib.hid hm7
  clear k7 k7' hP7 hn7 hs7 hm7
  replace q0 := HB.out.cell 0
  replace q1 := HB.out.cell 1
  replace y0 := HBQ.out.cell 0
  replace y1 := HBQ.out.cell 1
  dsimp only
  go_wp2_with (fail)
  refine (page16_any a2 c2 V2 lp next n2 HN2.out cursor from_ num now _ HP2.out g page nx err2 HG.out).mono ?_
  rintro r w8 ⟨a8, n8, c8, V8, pa8, m8, pc8, rfl, hn8, hP8, hm8, hs8, k8⟩
  have k8' := k8.alloc (.cells #[.slice a8 n8 c8, .int .i64 g.next] 24)
  replace HK := Lib.hid (HK.out.trans k8')
  replace HE := Lib.hid (HE.out.keep k8')
  replace HB := Lib.hid (HB.out.keeps k8' (by simp))
  replace HBQ := Lib.hid (HBQ.out.keeps k8' (by simp))
  replace HP2 := Lib.hid (HP2.out.keeps k8')
  replace HPQ := Lib.hid (HPQ.out.keeps k8')
  replace HS4 := Lib.hid (HS4.out.keeps k8')
  replace HP5 := Lib.hid (HP5.out.keeps k8')
  replace HB5 := Lib.hid (HB5.out.keeps k8' (by simp))
  replace HP6 := Lib.hid (HP6.out.keeps k8')
  replace HB6 := Lib.hid (HB6.out.keeps k8' (by simp))
  replace HP7 := Lib.hid (HP7.out.keeps k8')
  replace HB7 := Lib.hid (HB7.out.keeps k8' (by simp))
  replace HS7 := Lib.hid (HS7.out.keeps k8')
  have HP8 := Lib.hid (hP8.keeps ((Keeps.refl [] w8).alloc (.cells #[.slice a8 n8 c8, .int .i64 g.next] 24)))
  have HB8 := Lib.hid (Blk.new w8 24 #[.slice a8 n8 c8, .int .i64 g.next])
  have HN8 := Lib.hid hn8
  have HS8 := Lib.hid (hs8.keeps ((Keeps.refl [] w8).alloc (.cells #[.slice a8 n8 c8, .int .i64 g.next] 24)))
  have HM8 := Lib.hid hm8
  clear k8 k8' hP8 hn8 hs8 hm8
  replace q0 := HB.out.cell 0
  replace q1 := HB.out.cell 1
  replace y0 := HBQ.out.cell 0
  replace y1 := HBQ.out.cell 1
  dsimp only
  obtain ⟨R, hR⟩ : ∃ R, rightP ⟨lp, next⟩ = R := ⟨_, rfl⟩
  have HR := Lib.hid hR
  obtain ⟨R2, hR2⟩ : ∃ R2 : Bool, (R2 = true ↔ (⟨lp, next⟩ : Po) = ⟨lq, nextq⟩) := ⟨@decide ((⟨lp, next⟩ : Po) = ⟨lq, nextq⟩) (Classical.propDecidable _), @decide_eq_true_iff _ (Classical.propDecidable _)⟩
  have HR2 := Lib.hid hR2
  clear hR hR2 q0 q1 y0 y1
  obtain ⟨lg, xg⟩ := g
  obtain ⟨lc, xc⟩ := q
  dsimp only at HP5 HP6 HP7 HP8 HB5 HB6 HB7 HB8 HK HE ⊢
  obtain ⟨wz, hwz⟩ : ∃ wz, w8.alloc (.cells #[.slice a8 n8 c8, .int .i64 xg] 24) = wz := ⟨_, rfl⟩
  rw [hwz] at HP5 HP6 HP7 HP8 HB5 HB6 HB7 HB8 HK HP2 HPQ HS7 HS8 HB HBQ
  have z0 := HB.out.cell 0
  have z1 := HB.out.cell 1
  have z2 := HBQ.out.cell 0
  have z3 := HBQ.out.cell 1
  have z4 := HB5.out.cell 0
  have z5 := HB5.out.cell 1
  have z6 := HB6.out.cell 0
  have z7 := HB6.out.cell 1
  have z8 := HB7.out.cell 0
  have z9 := HB7.out.cell 1
  have z10 := HB8.out.cell 0
  have z11 := HB8.out.cell 1
  have c1 := fun W (hk : Keeps [] wz W) => nright_any a2 c2 V2 ⟨lp, next⟩ n2 HN2.out W (HP2.out.keeps hk) R HR.out
  have c2' := fun W (hk : Keeps [] wz W) => right16_any a2 c2 V2 ⟨lp, next⟩ n2 HN2.out W (HP2.out.keeps hk) R HR.out
  dsimp only at c1 c2'
  have HC1 := Lib.hid c1
  have HC2 := Lib.hid c2'
  have HC3 := Lib.hid (fun W (hk : Keeps [] wz W) => nsame_any a2 a3 c2 c3 V2 V3 lp lq next nextq n2 n3 HN2.out HNQ.out R2 HR2.out W (HP2.out.keeps hk) (HPQ.out.keeps hk))
  have HC4 := Lib.hid (fun W (hk : Keeps [] wz W) => same16_any a2 a3 c2 c3 V2 V3 lp lq next nextq n2 n3 HN2.out HNQ.out R2 HR2.out W (HP2.out.keeps hk) (HPQ.out.keeps hk))
  have HC5 := Lib.hid (fun W (hk : Keeps [] wz W) => nsame_any a2 a2 c2 c2 V2 V2 lp lp next next n2 n2 HN2.out HN2.out true (by simp) W (HP2.out.keeps hk) (HP2.out.keeps hk))
  have HC6 := Lib.hid (fun W => same16_any none none 0 0 [] [] [] [] 1 1 0 0 rfl rfl true (by simp) W (pool_new W) (pool_new W))
  have HC7 := Lib.hid (fun W (hk : Keeps [] wz W) => same16_any a5 a6 c5 c6 V5 V6 lc lc xc xc n5 n6 HN5.out HN6.out true (by simp) W (HP5.out.keeps hk) (HP6.out.keeps hk))
  have HC8 := Lib.hid (fun W (hk : Keeps [] wz W) => same16_any a7 a8 c7 c8 V7 V8 lg lg xg xg n7 n8 HN7.out HN8.out true (by simp) W (HP7.out.keeps hk) (HP8.out.keeps hk))
  have HC9 := Lib.hid (fun W (hk : Keeps [] wz W) => samestr_any pa7 pa8 pc7 pc8 page page m7 m8 HM7.out HM8.out true (by simp) W (HS7.out.keeps hk) (HS8.out.keeps hk))
  clear c1 c2'
  go_upto_region 9 with (fail)
  clear hwz
  refine wp_region_held_drew (S := (fun w' : World => Keeps [] wz w' ∧ w'.cell? ⟨w.heap.size, 0, none⟩ = some (.slice a2 n2 c2) ∧ w'.cell? ⟨w.heap.size, 1, none⟩ = some (.int .i64 next) ∧ w'.cell? ⟨w.heap.size + 1, 0, none⟩ = some (.slice a3 n3 c3) ∧ w'.cell? ⟨w.heap.size + 1, 1, none⟩ = some (.int .i64 nextq) ∧ w'.cell? ⟨w5.heap.size, 0, none⟩ = some (.slice a5 n5 c5) ∧ w'.cell? ⟨w5.heap.size, 1, none⟩ = some (.int .i64 xc) ∧ w'.cell? ⟨w6.heap.size, 0, none⟩ = some (.slice a6 n6 c6) ∧ w'.cell? ⟨w6.heap.size, 1, none⟩ = some (.int .i64 xc) ∧ w'.cell? ⟨w7.heap.size, 0, none⟩ = some (.slice a7 n7 c7) ∧ w'.cell? ⟨w7.heap.size, 1, none⟩ = some (.int .i64 xg) ∧ w'.cell? ⟨w8.heap.size, 0, none⟩ = some (.slice a8 n8 c8) ∧ w'.cell? ⟨w8.heap.size, 1, none⟩ = some (.int .i64 xg))) (by kernel_rfl) ?_ (fun hHeld => ?_)
  · (try dsimp only); (first | exact held12 hk hHeld | exact ⟨(Keeps.refl [] wz).drew, z0, z1, z2, z3, z4, z5, z6, z7, z8, z9, z10, z11⟩)
  refine wpAnyH_take (i := 0) (oi := { dst := some 75, op := Op.move (Operand.tmp 15), type := 4, pos := "law.go:48", after := #[], guard := none }) (v := ?_) rfl (by kernel_rfl) (by kernel_rfl) (by kernel_rfl) (fun _ _ _ h => h) (Or.inl ⟨by rfl, ?_⟩) (by assumption) ?_
  rotate_left; · ((intro w hSw; (try dsimp only at hSw); go_simp); try with_reducible rfl)
  try simp only [Act.put, List.setIfInBounds_toArray, List.set_cons_zero, List.set_cons_succ]
  refine wpAnyH_take (i := 1) (oi := { dst := some 76, op := Op.move (Operand.tmp 75), type := 4, pos := "law.go:48", after := #[{ on := 0, ground := Ground.data }], guard := none }) (v := ?_) rfl (by kernel_rfl) (by kernel_rfl) (by kernel_rfl) (fun _ _ _ h => h) (Or.inl ⟨by rfl, ?_⟩) (by assumption) ?_
  rotate_left; · ((intro w hSw; (try dsimp only at hSw); go_simp); try with_reducible rfl)
  try simp only [Act.put, List.setIfInBounds_toArray, List.set_cons_zero, List.set_cons_succ]
  refine wpAnyH_take (i := 2) (oi := { dst := some 77, op := Op.load 24 (Operand.tmp 7), type := 24, pos := "law.go:48", after := #[{ on := 1, ground := Ground.guard }], guard := some (1, true) }) (v := ?_) rfl (by kernel_rfl) (by kernel_rfl) (by kernel_rfl) (fun _ _ _ h => h) (Or.inl ⟨by rfl, ?_⟩) (by assumption) ?_
  rotate_left; · ((intro w hSw; (try dsimp only at hSw); go_simp); try with_reducible rfl)
  try simp only [Act.put, List.setIfInBounds_toArray, List.set_cons_zero, List.set_cons_succ]
  refine wpAnyH_take (i := 4) (oi := { dst := some 79, op := Op.load 24 (Operand.tmp 7), type := 24, pos := "law.go:48", after := #[{ on := 1, ground := Ground.guard }], guard := some (1, true) }) (v := ?_) rfl (by kernel_rfl) (by kernel_rfl) (by kernel_rfl) (fun _ _ _ h => h) (Or.inl ⟨by rfl, ?_⟩) (by assumption) ?_
  rotate_left; · ((intro w hSw; (try dsimp only at hSw); go_simp); try with_reducible rfl)
  try simp only [Act.put, List.setIfInBounds_toArray, List.set_cons_zero, List.set_cons_succ]
  refine wpAnyH_ready (rs := [3]) (by kernel_rfl) (by simp) ?_
  refine AllReadyH.cons rfl (fun K hK => ?_) ?_
  · go_simp
    (refine (HC1.out _ hHeld.1).mono ?_; rintro e w' ⟨rfl, hk⟩)
    refine hK.out _ _ ?_ (fun hHeld => ?_)
    · (try dsimp only); (first | exact held12 hk hHeld | exact ⟨(Keeps.refl [] wz).drew, z0, z1, z2, z3, z4, z5, z6, z7, z8, z9, z10, z11⟩)
    clear hK K
    try simp only [Act.put, List.setIfInBounds_toArray, List.set_cons_zero, List.set_cons_succ]
    refine wpAnyH_ready (rs := [5]) (by kernel_rfl) (by simp) ?_
    refine AllReadyH.cons rfl (fun K hK => ?_) ?_
    · go_simp
      (refine (HC2.out _ hHeld.1).mono ?_; rintro e w' ⟨rfl, hk⟩)
      refine hK.out _ _ ?_ (fun hHeld => ?_)
      · (try dsimp only); (first | exact held12 hk hHeld | exact ⟨(Keeps.refl [] wz).drew, z0, z1, z2, z3, z4, z5, z6, z7, z8, z9, z10, z11⟩)
      clear hK K
      try simp only [Act.put, List.setIfInBounds_toArray, List.set_cons_zero, List.set_cons_succ]
      refine wpAnyH_take (i := 6) (oi := { dst := some 81, op := Op.binOp BinOp.eql 4 (Operand.tmp 78) (Operand.tmp 80) 4, type := 4, pos := "law.go:48", after := #[{ on := 3, ground := Ground.data }, { on := 5, ground := Ground.data }, { on := 1, ground := Ground.guard }], guard := some (1, true) }) (v := ?_) rfl (by kernel_rfl) (by kernel_rfl) (by kernel_rfl) (fun _ _ _ h => h) (Or.inl ⟨by rfl, ?_⟩) (by assumption) ?_
      rotate_left; · ((intro w hSw; (try dsimp only at hSw); go_simp); try with_reducible rfl)
      try simp only [Act.put, List.setIfInBounds_toArray, List.set_cons_zero, List.set_cons_succ]
      refine wpAnyH_take (i := 7) (oi := { dst := some 82, op := Op.pick (Operand.tmp 76) (Operand.tmp 81) (Operand.const (Value.bool false)), type := 4, pos := "law.go:48", after := #[{ on := 1, ground := Ground.data }, { on := 6, ground := Ground.data }], guard := none }) (v := ?_) rfl (by kernel_rfl) (by kernel_rfl) (by kernel_rfl) (fun _ _ _ h => h) (Or.inl ⟨by rfl, ?_⟩) (by assumption) ?_
      rotate_left; · ((intro w hSw; (try dsimp only at hSw); go_simp); try with_reducible rfl)
      try simp only [Act.put, List.setIfInBounds_toArray, List.set_cons_zero, List.set_cons_succ]
      refine wpAnyH_take (i := 8) (oi := { dst := some 83, op := Op.move (Operand.tmp 82), type := 4, pos := "law.go:48", after := #[{ on := 7, ground := Ground.data }, { on := 5, ground := Ground.chain }], guard := none }) (v := ?_) rfl (by kernel_rfl) (by kernel_rfl) (by kernel_rfl) (fun _ _ _ h => h) (Or.inl ⟨by rfl, ?_⟩) (by assumption) ?_
      rotate_left; · ((intro w hSw; (try dsimp only at hSw); go_simp); try with_reducible rfl)
      try simp only [Act.put, List.setIfInBounds_toArray, List.set_cons_zero, List.set_cons_succ]
      refine wpAnyH_take (i := 9) (oi := { dst := some 84, op := Op.load 24 (Operand.tmp 7), type := 24, pos := "law.go:48", after := #[{ on := 8, ground := Ground.guard }], guard := some (8, true) }) (v := ?_) rfl (by kernel_rfl) (by kernel_rfl) (by kernel_rfl) (fun _ _ _ h => h) (Or.inl ⟨by rfl, ?_⟩) (by assumption) ?_
      rotate_left; · ((intro w hSw; (try dsimp only at hSw); go_simp); try with_reducible rfl)
      try simp only [Act.put, List.setIfInBounds_toArray, List.set_cons_zero, List.set_cons_succ]
      refine wpAnyH_take (i := 10) (oi := { dst := some 85, op := Op.load 24 (Operand.tmp 8), type := 24, pos := "law.go:48", after := #[{ on := 8, ground := Ground.guard }], guard := some (8, true) }) (v := ?_) rfl (by kernel_rfl) (by kernel_rfl) (by kernel_rfl) (fun _ _ _ h => h) (Or.inl ⟨by rfl, ?_⟩) (by assumption) ?_
      rotate_left; · ((intro w hSw; (try dsimp only at hSw); go_simp); try with_reducible rfl)
      try simp only [Act.put, List.setIfInBounds_toArray, List.set_cons_zero, List.set_cons_succ]
      refine wpAnyH_take (i := 12) (oi := { dst := some 87, op := Op.load 24 (Operand.tmp 7), type := 24, pos := "law.go:48", after := #[{ on := 8, ground := Ground.guard }], guard := some (8, true) }) (v := ?_) rfl (by kernel_rfl) (by kernel_rfl) (by kernel_rfl) (fun _ _ _ h => h) (Or.inl ⟨by rfl, ?_⟩) (by assumption) ?_
      rotate_left; · ((intro w hSw; (try dsimp only at hSw); go_simp); try with_reducible rfl)
      try simp only [Act.put, List.setIfInBounds_toArray, List.set_cons_zero, List.set_cons_succ]
      refine wpAnyH_take (i := 13) (oi := { dst := some 88, op := Op.load 24 (Operand.tmp 8), type := 24, pos := "law.go:48", after := #[{ on := 8, ground := Ground.guard }], guard := some (8, true) }) (v := ?_) rfl (by kernel_rfl) (by kernel_rfl) (by kernel_rfl) (fun _ _ _ h => h) (Or.inl ⟨by rfl, ?_⟩) (by assumption) ?_
      rotate_left; · ((intro w hSw; (try dsimp only at hSw); go_simp); try with_reducible rfl)
      try simp only [Act.put, List.setIfInBounds_toArray, List.set_cons_zero, List.set_cons_succ]
      refine wpAnyH_ready (rs := [11]) (by kernel_rfl) (by simp) ?_
      refine AllReadyH.cons rfl (fun K hK => ?_) ?_
      · go_simp
        (refine (HC3.out _ hHeld.1).mono ?_; rintro e w' ⟨rfl, hk⟩)
        refine hK.out _ _ ?_ (fun hHeld => ?_)
        · (try dsimp only); (first | exact held12 hk hHeld | exact ⟨(Keeps.refl [] wz).drew, z0, z1, z2, z3, z4, z5, z6, z7, z8, z9, z10, z11⟩)
        clear hK K
        try simp only [Act.put, List.setIfInBounds_toArray, List.set_cons_zero, List.set_cons_succ]
        refine wpAnyH_ready (rs := [14]) (by kernel_rfl) (by simp) ?_
        refine AllReadyH.cons rfl (fun K hK => ?_) ?_
        · go_simp
          (refine (HC4.out _ hHeld.1).mono ?_; rintro e w' ⟨rfl, hk⟩)
          refine hK.out _ _ ?_ (fun hHeld => ?_)
          · (try dsimp only); (first | exact held12 hk hHeld | exact ⟨(Keeps.refl [] wz).drew, z0, z1, z2, z3, z4, z5, z6, z7, z8, z9, z10, z11⟩)
          clear hK K
          try simp only [Act.put, List.setIfInBounds_toArray, List.set_cons_zero, List.set_cons_succ]
          refine wpAnyH_take (i := 15) (oi := { dst := some 90, op := Op.binOp BinOp.eql 4 (Operand.tmp 86) (Operand.tmp 89) 4, type := 4, pos := "law.go:48", after := #[{ on := 11, ground := Ground.data }, { on := 14, ground := Ground.data }, { on := 8, ground := Ground.guard }], guard := some (8, true) }) (v := ?_) rfl (by kernel_rfl) (by kernel_rfl) (by kernel_rfl) (fun _ _ _ h => h) (Or.inl ⟨by rfl, ?_⟩) (by assumption) ?_
          rotate_left; · ((intro w hSw; (try dsimp only at hSw); go_simp); try with_reducible rfl)
          try simp only [Act.put, List.setIfInBounds_toArray, List.set_cons_zero, List.set_cons_succ]
          refine wpAnyH_take (i := 16) (oi := { dst := some 91, op := Op.pick (Operand.tmp 83) (Operand.tmp 90) (Operand.const (Value.bool false)), type := 4, pos := "law.go:48", after := #[{ on := 8, ground := Ground.data }, { on := 15, ground := Ground.data }], guard := none }) (v := ?_) rfl (by kernel_rfl) (by kernel_rfl) (by kernel_rfl) (fun _ _ _ h => h) (Or.inl ⟨by rfl, ?_⟩) (by assumption) ?_
          rotate_left; · ((intro w hSw; (try dsimp only at hSw); go_simp); try with_reducible rfl)
          try simp only [Act.put, List.setIfInBounds_toArray, List.set_cons_zero, List.set_cons_succ]
          refine wpAnyH_take (i := 17) (oi := { dst := some 92, op := Op.move (Operand.tmp 91), type := 4, pos := "law.go:48", after := #[{ on := 16, ground := Ground.data }, { on := 14, ground := Ground.chain }], guard := none }) (v := ?_) rfl (by kernel_rfl) (by kernel_rfl) (by kernel_rfl) (fun _ _ _ h => h) (Or.inl ⟨by rfl, ?_⟩) (by assumption) ?_
          rotate_left; · ((intro w hSw; (try dsimp only at hSw); go_simp); try with_reducible rfl)
          try simp only [Act.put, List.setIfInBounds_toArray, List.set_cons_zero, List.set_cons_succ]
          refine wpAnyH_take (i := 18) (oi := { dst := some 93, op := Op.load 24 (Operand.tmp 7), type := 24, pos := "law.go:48", after := #[{ on := 17, ground := Ground.guard }], guard := some (17, true) }) (v := ?_) rfl (by kernel_rfl) (by kernel_rfl) (by kernel_rfl) (fun _ _ _ h => h) (Or.inl ⟨by rfl, ?_⟩) (by assumption) ?_
          rotate_left; · ((intro w hSw; (try dsimp only at hSw); go_simp); try with_reducible rfl)
          try simp only [Act.put, List.setIfInBounds_toArray, List.set_cons_zero, List.set_cons_succ]
          refine wpAnyH_take (i := 19) (oi := { dst := some 94, op := Op.load 24 (Operand.tmp 7), type := 24, pos := "law.go:48", after := #[{ on := 17, ground := Ground.guard }], guard := some (17, true) }) (v := ?_) rfl (by kernel_rfl) (by kernel_rfl) (by kernel_rfl) (fun _ _ _ h => h) (Or.inl ⟨by rfl, ?_⟩) (by assumption) ?_
          rotate_left; · ((intro w hSw; (try dsimp only at hSw); go_simp); try with_reducible rfl)
          try simp only [Act.put, List.setIfInBounds_toArray, List.set_cons_zero, List.set_cons_succ]
          refine wpAnyH_ready (rs := [20]) (by kernel_rfl) (by simp) ?_
          refine AllReadyH.cons rfl (fun K hK => ?_) ?_
          · go_simp
            (refine (HC5.out _ hHeld.1).mono ?_; rintro e w' ⟨rfl, hk⟩)
            refine hK.out _ _ ?_ (fun hHeld => ?_)
            · (try dsimp only); (first | exact held12 hk hHeld | exact ⟨(Keeps.refl [] wz).drew, z0, z1, z2, z3, z4, z5, z6, z7, z8, z9, z10, z11⟩)
            clear hK K
            try simp only [Act.put, List.setIfInBounds_toArray, List.set_cons_zero, List.set_cons_succ]
            refine wpAnyH_take (i := 21) (oi := { dst := some 96, op := Op.pick (Operand.tmp 92) (Operand.tmp 95) (Operand.const (Value.bool false)), type := 4, pos := "law.go:48", after := #[{ on := 17, ground := Ground.data }, { on := 20, ground := Ground.data }], guard := none }) (v := ?_) rfl (by kernel_rfl) (by kernel_rfl) (by kernel_rfl) (fun _ _ _ h => h) (Or.inl ⟨by rfl, ?_⟩) (by assumption) ?_
            rotate_left; · ((intro w hSw; (try dsimp only at hSw); go_simp); try with_reducible rfl)
            try simp only [Act.put, List.setIfInBounds_toArray, List.set_cons_zero, List.set_cons_succ]
            refine wpAnyH_take (i := 22) (oi := { dst := some 97, op := Op.move (Operand.tmp 96), type := 4, pos := "law.go:48", after := #[{ on := 21, ground := Ground.data }, { on := 20, ground := Ground.chain }], guard := none }) (v := ?_) rfl (by kernel_rfl) (by kernel_rfl) (by kernel_rfl) (fun _ _ _ h => h) (Or.inl ⟨by rfl, ?_⟩) (by assumption) ?_
            rotate_left; · ((intro w hSw; (try dsimp only at hSw); go_simp); try with_reducible rfl)
            try simp only [Act.put, List.setIfInBounds_toArray, List.set_cons_zero, List.set_cons_succ]
            refine wpAnyH_ready (rs := [23]) (by kernel_rfl) (by simp) ?_
            refine AllReadyH.cons rfl (fun K hK => ?_) ?_
            · go_simp
              (refine (NNew _).mono ?_; rintro e w' ⟨rfl, hk⟩)
              refine hK.out _ _ ?_ (fun hHeld => ?_)
              · (try dsimp only); (first | exact held12 hk hHeld | exact ⟨(Keeps.refl [] wz).drew, z0, z1, z2, z3, z4, z5, z6, z7, z8, z9, z10, z11⟩)
              clear hK K
              try simp only [Act.put, List.setIfInBounds_toArray, List.set_cons_zero, List.set_cons_succ]
              refine wpAnyH_ready (rs := [24]) (by kernel_rfl) (by simp) ?_
              refine AllReadyH.cons rfl (fun K hK => ?_) ?_
              · go_simp
                (refine (New16 _).mono ?_; rintro e w' ⟨rfl, hk⟩)
                refine hK.out _ _ ?_ (fun hHeld => ?_)
                · (try dsimp only); (first | exact held12 hk hHeld | exact ⟨(Keeps.refl [] wz).drew, z0, z1, z2, z3, z4, z5, z6, z7, z8, z9, z10, z11⟩)
                clear hK K
                try simp only [Act.put, List.setIfInBounds_toArray, List.set_cons_zero, List.set_cons_succ]
                refine wpAnyH_ready (rs := [25]) (by kernel_rfl) (by simp) ?_
                refine AllReadyH.cons rfl (fun K hK => ?_) ?_
                · go_simp
                  (refine (HC6.out _).mono ?_; rintro e w' ⟨rfl, hk⟩)
                  refine hK.out _ _ ?_ (fun hHeld => ?_)
                  · (try dsimp only); (first | exact held12 hk hHeld | exact ⟨(Keeps.refl [] wz).drew, z0, z1, z2, z3, z4, z5, z6, z7, z8, z9, z10, z11⟩)
                  clear hK K
                  try simp only [Act.put, List.setIfInBounds_toArray, List.set_cons_zero, List.set_cons_succ]
                  refine wpAnyH_take (i := 26) (oi := { dst := some 101, op := Op.pick (Operand.tmp 97) (Operand.tmp 100) (Operand.const (Value.bool false)), type := 4, pos := "law.go:48", after := #[{ on := 22, ground := Ground.data }, { on := 25, ground := Ground.data }], guard := none }) (v := ?_) rfl (by kernel_rfl) (by kernel_rfl) (by kernel_rfl) (fun _ _ _ h => h) (Or.inl ⟨by rfl, ?_⟩) (by assumption) ?_
                  rotate_left; · ((intro w hSw; (try dsimp only at hSw); go_simp); try with_reducible rfl)
                  try simp only [Act.put, List.setIfInBounds_toArray, List.set_cons_zero, List.set_cons_succ]
                  refine wpAnyH_take (i := 27) (oi := { dst := some 102, op := Op.move (Operand.tmp 101), type := 4, pos := "law.go:48", after := #[{ on := 26, ground := Ground.data }, { on := 25, ground := Ground.chain }], guard := none }) (v := ?_) rfl (by kernel_rfl) (by kernel_rfl) (by kernel_rfl) (fun _ _ _ h => h) (Or.inl ⟨by rfl, ?_⟩) (by assumption) ?_
                  rotate_left; · ((intro w hSw; (try dsimp only at hSw); go_simp); try with_reducible rfl)
                  try simp only [Act.put, List.setIfInBounds_toArray, List.set_cons_zero, List.set_cons_succ]
                  refine wpAnyH_take (i := 28) (oi := { dst := some 103, op := Op.load 24 (Operand.tmp 16), type := 24, pos := "law.go:48", after := #[{ on := 27, ground := Ground.guard }], guard := some (27, true) }) (v := ?_) rfl (by kernel_rfl) (by kernel_rfl) (by kernel_rfl) (fun _ _ _ h => h) (Or.inl ⟨by rfl, ?_⟩) (by assumption) ?_
                  rotate_left; · ((intro w hSw; (try dsimp only at hSw); go_simp); try with_reducible rfl)
                  try simp only [Act.put, List.setIfInBounds_toArray, List.set_cons_zero, List.set_cons_succ]
                  refine wpAnyH_take (i := 29) (oi := { dst := some 104, op := Op.load 24 (Operand.tmp 19), type := 24, pos := "law.go:48", after := #[{ on := 27, ground := Ground.guard }], guard := some (27, true) }) (v := ?_) rfl (by kernel_rfl) (by kernel_rfl) (by kernel_rfl) (fun _ _ _ h => h) (Or.inl ⟨by rfl, ?_⟩) (by assumption) ?_
                  rotate_left; · ((intro w hSw; (try dsimp only at hSw); go_simp); try with_reducible rfl)
                  try simp only [Act.put, List.setIfInBounds_toArray, List.set_cons_zero, List.set_cons_succ]
                  refine wpAnyH_ready (rs := [30]) (by kernel_rfl) (by simp) ?_
                  refine AllReadyH.cons rfl (fun K hK => ?_) ?_
                  · go_simp
                    (refine (HC7.out _ hHeld.1).mono ?_; rintro e w' ⟨rfl, hk⟩)
                    refine hK.out _ _ ?_ (fun hHeld => ?_)
                    · (try dsimp only); (first | exact held12 hk hHeld | exact ⟨(Keeps.refl [] wz).drew, z0, z1, z2, z3, z4, z5, z6, z7, z8, z9, z10, z11⟩)
                    clear hK K
                    try simp only [Act.put, List.setIfInBounds_toArray, List.set_cons_zero, List.set_cons_succ]
                    refine wpAnyH_take (i := 31) (oi := { dst := some 106, op := Op.pick (Operand.tmp 102) (Operand.tmp 105) (Operand.const (Value.bool false)), type := 4, pos := "law.go:48", after := #[{ on := 27, ground := Ground.data }, { on := 30, ground := Ground.data }], guard := none }) (v := ?_) rfl (by kernel_rfl) (by kernel_rfl) (by kernel_rfl) (fun _ _ _ h => h) (Or.inl ⟨by rfl, ?_⟩) (by assumption) ?_
                    rotate_left; · ((intro w hSw; (try dsimp only at hSw); go_simp); try with_reducible rfl)
                    try simp only [Act.put, List.setIfInBounds_toArray, List.set_cons_zero, List.set_cons_succ]
                    refine wpAnyH_take (i := 32) (oi := { dst := some 107, op := Op.move (Operand.tmp 106), type := 4, pos := "law.go:48", after := #[{ on := 31, ground := Ground.data }, { on := 30, ground := Ground.chain }], guard := none }) (v := ?_) rfl (by kernel_rfl) (by kernel_rfl) (by kernel_rfl) (fun _ _ _ h => h) (Or.inl ⟨by rfl, ?_⟩) (by assumption) ?_
                    rotate_left; · ((intro w hSw; (try dsimp only at hSw); go_simp); try with_reducible rfl)
                    try simp only [Act.put, List.setIfInBounds_toArray, List.set_cons_zero, List.set_cons_succ]
                    refine wpAnyH_take (i := 33) (oi := { dst := some 108, op := Op.move (Operand.tmp 17), type := 3, pos := "law.go:48", after := #[{ on := 32, ground := Ground.guard }], guard := some (32, true) }) (v := ?_) rfl (by kernel_rfl) (by kernel_rfl) (by kernel_rfl) (fun _ _ _ h => h) (Or.inl ⟨by rfl, ?_⟩) (by assumption) ?_
                    rotate_left; · ((intro w hSw; (try dsimp only at hSw); go_simp); try with_reducible rfl)
                    try simp only [Act.put, List.setIfInBounds_toArray, List.set_cons_zero, List.set_cons_succ]
                    refine wpAnyH_take (i := 34) (oi := { dst := some 109, op := Op.move (Operand.tmp 20), type := 3, pos := "law.go:48", after := #[{ on := 32, ground := Ground.guard }], guard := some (32, true) }) (v := ?_) rfl (by kernel_rfl) (by kernel_rfl) (by kernel_rfl) (fun _ _ _ h => h) (Or.inl ⟨by rfl, ?_⟩) (by assumption) ?_
                    rotate_left; · ((intro w hSw; (try dsimp only at hSw); go_simp); try with_reducible rfl)
                    try simp only [Act.put, List.setIfInBounds_toArray, List.set_cons_zero, List.set_cons_succ]
                    refine wpAnyH_take (i := 35) (oi := { dst := some 110, op := Op.binOp BinOp.eql 3 (Operand.tmp 108) (Operand.tmp 109) 3, type := 4, pos := "law.go:48", after := #[{ on := 33, ground := Ground.data }, { on := 34, ground := Ground.data }, { on := 32, ground := Ground.guard }], guard := some (32, true) }) (v := ?_) rfl (by kernel_rfl) (by kernel_rfl) (by kernel_rfl) (fun _ _ _ h => h) (Or.inl ⟨by rfl, ?_⟩) (by assumption) ?_
                    rotate_left; · ((intro w hSw; (try dsimp only at hSw); go_simp); try with_reducible rfl)
                    try simp only [Act.put, List.setIfInBounds_toArray, List.set_cons_zero, List.set_cons_succ]
                    refine wpAnyH_take (i := 36) (oi := { dst := some 111, op := Op.pick (Operand.tmp 107) (Operand.tmp 110) (Operand.const (Value.bool false)), type := 4, pos := "law.go:48", after := #[{ on := 32, ground := Ground.data }, { on := 35, ground := Ground.data }], guard := none }) (v := ?_) rfl (by kernel_rfl) (by kernel_rfl) (by kernel_rfl) (fun _ _ _ h => h) (Or.inl ⟨by rfl, ?_⟩) (by assumption) ?_
                    rotate_left; · ((intro w hSw; (try dsimp only at hSw); go_simp); try with_reducible rfl)
                    try simp only [Act.put, List.setIfInBounds_toArray, List.set_cons_zero, List.set_cons_succ]
                    refine wpAnyH_take (i := 37) (oi := { dst := some 112, op := Op.move (Operand.tmp 111), type := 4, pos := "law.go:48", after := #[{ on := 36, ground := Ground.data }, { on := 32, ground := Ground.chain }], guard := none }) (v := ?_) rfl (by kernel_rfl) (by kernel_rfl) (by kernel_rfl) (fun _ _ _ h => h) (Or.inl ⟨by rfl, ?_⟩) (by assumption) ?_
                    rotate_left; · ((intro w hSw; (try dsimp only at hSw); go_simp); try with_reducible rfl)
                    try simp only [Act.put, List.setIfInBounds_toArray, List.set_cons_zero, List.set_cons_succ]
                    refine wpAnyH_take (i := 38) (oi := { dst := some 113, op := Op.move (Operand.tmp 18), type := 30, pos := "law.go:48", after := #[{ on := 37, ground := Ground.guard }], guard := some (37, true) }) (v := ?_) rfl (by kernel_rfl) (by kernel_rfl) (by kernel_rfl) (fun _ _ _ h => h) (Or.inl ⟨by rfl, ?_⟩) (by assumption) ?_
                    rotate_left; · ((intro w hSw; (try dsimp only at hSw); go_simp); try with_reducible rfl)
                    try simp only [Act.put, List.setIfInBounds_toArray, List.set_cons_zero, List.set_cons_succ]
                    refine wpAnyH_take (i := 39) (oi := { dst := some 114, op := Op.move (Operand.tmp 21), type := 30, pos := "law.go:48", after := #[{ on := 37, ground := Ground.guard }], guard := some (37, true) }) (v := ?_) rfl (by kernel_rfl) (by kernel_rfl) (by kernel_rfl) (fun _ _ _ h => h) (Or.inl ⟨by rfl, ?_⟩) (by assumption) ?_
                    rotate_left; · ((intro w hSw; (try dsimp only at hSw); go_simp); try with_reducible rfl)
                    try simp only [Act.put, List.setIfInBounds_toArray, List.set_cons_zero, List.set_cons_succ]
                    refine wpAnyH_take (i := 40) (oi := { dst := some 115, op := Op.binOp BinOp.eql 30 (Operand.tmp 113) (Operand.tmp 114) 30, type := 4, pos := "law.go:48", after := #[{ on := 38, ground := Ground.data }, { on := 39, ground := Ground.data }, { on := 37, ground := Ground.guard }], guard := some (37, true) }) (v := ?_) rfl (by kernel_rfl) (by kernel_rfl) (by kernel_rfl) (fun _ _ _ h => h) (Or.inl ⟨by rfl, ?_⟩) (by assumption) ?_
                    rotate_left; · ((intro w hSw; (try dsimp only at hSw); go_simp); try with_reducible rfl)
                    try simp only [Act.put, List.setIfInBounds_toArray, List.set_cons_zero, List.set_cons_succ]
                    refine wpAnyH_take (i := 41) (oi := { dst := some 116, op := Op.pick (Operand.tmp 112) (Operand.tmp 115) (Operand.const (Value.bool false)), type := 4, pos := "law.go:48", after := #[{ on := 37, ground := Ground.data }, { on := 40, ground := Ground.data }], guard := none }) (v := ?_) rfl (by kernel_rfl) (by kernel_rfl) (by kernel_rfl) (fun _ _ _ h => h) (Or.inl ⟨by rfl, ?_⟩) (by assumption) ?_
                    rotate_left; · ((intro w hSw; (try dsimp only at hSw); go_simp); try with_reducible rfl)
                    try simp only [Act.put, List.setIfInBounds_toArray, List.set_cons_zero, List.set_cons_succ]
                    refine wpAnyH_take (i := 42) (oi := { dst := some 117, op := Op.move (Operand.tmp 116), type := 4, pos := "law.go:48", after := #[{ on := 41, ground := Ground.data }, { on := 37, ground := Ground.chain }], guard := none }) (v := ?_) rfl (by kernel_rfl) (by kernel_rfl) (by kernel_rfl) (fun _ _ _ h => h) (Or.inl ⟨by rfl, ?_⟩) (by assumption) ?_
                    rotate_left; · ((intro w hSw; (try dsimp only at hSw); go_simp); try with_reducible rfl)
                    try simp only [Act.put, List.setIfInBounds_toArray, List.set_cons_zero, List.set_cons_succ]
                    refine wpAnyH_take (i := 43) (oi := { dst := some 118, op := Op.load 24 (Operand.tmp 22), type := 24, pos := "law.go:48", after := #[{ on := 42, ground := Ground.guard }], guard := some (42, true) }) (v := ?_) rfl (by kernel_rfl) (by kernel_rfl) (by kernel_rfl) (fun _ _ _ h => h) (Or.inl ⟨by rfl, ?_⟩) (by assumption) ?_
                    rotate_left; · ((intro w hSw; (try dsimp only at hSw); go_simp); try with_reducible rfl)
                    try simp only [Act.put, List.setIfInBounds_toArray, List.set_cons_zero, List.set_cons_succ]
                    refine wpAnyH_take (i := 44) (oi := { dst := some 119, op := Op.load 24 (Operand.tmp 26), type := 24, pos := "law.go:48", after := #[{ on := 42, ground := Ground.guard }], guard := some (42, true) }) (v := ?_) rfl (by kernel_rfl) (by kernel_rfl) (by kernel_rfl) (fun _ _ _ h => h) (Or.inl ⟨by rfl, ?_⟩) (by assumption) ?_
                    rotate_left; · ((intro w hSw; (try dsimp only at hSw); go_simp); try with_reducible rfl)
                    try simp only [Act.put, List.setIfInBounds_toArray, List.set_cons_zero, List.set_cons_succ]
                    refine wpAnyH_ready (rs := [45]) (by kernel_rfl) (by simp) ?_
                    refine AllReadyH.cons rfl (fun K hK => ?_) ?_
                    · go_simp
                      (refine (HC8.out _ hHeld.1).mono ?_; rintro e w' ⟨rfl, hk⟩)
                      refine hK.out _ _ ?_ (fun hHeld => ?_)
                      · (try dsimp only); (first | exact held12 hk hHeld | exact ⟨(Keeps.refl [] wz).drew, z0, z1, z2, z3, z4, z5, z6, z7, z8, z9, z10, z11⟩)
                      clear hK K
                      try simp only [Act.put, List.setIfInBounds_toArray, List.set_cons_zero, List.set_cons_succ]
                      refine wpAnyH_take (i := 46) (oi := { dst := some 121, op := Op.pick (Operand.tmp 117) (Operand.tmp 120) (Operand.const (Value.bool false)), type := 4, pos := "law.go:48", after := #[{ on := 42, ground := Ground.data }, { on := 45, ground := Ground.data }], guard := none }) (v := ?_) rfl (by kernel_rfl) (by kernel_rfl) (by kernel_rfl) (fun _ _ _ h => h) (Or.inl ⟨by rfl, ?_⟩) (by assumption) ?_
                      rotate_left; · ((intro w hSw; (try dsimp only at hSw); go_simp); try with_reducible rfl)
                      try simp only [Act.put, List.setIfInBounds_toArray, List.set_cons_zero, List.set_cons_succ]
                      refine wpAnyH_take (i := 47) (oi := { dst := some 122, op := Op.move (Operand.tmp 121), type := 4, pos := "law.go:48", after := #[{ on := 46, ground := Ground.data }, { on := 45, ground := Ground.chain }], guard := none }) (v := ?_) rfl (by kernel_rfl) (by kernel_rfl) (by kernel_rfl) (fun _ _ _ h => h) (Or.inl ⟨by rfl, ?_⟩) (by assumption) ?_
                      rotate_left; · ((intro w hSw; (try dsimp only at hSw); go_simp); try with_reducible rfl)
                      try simp only [Act.put, List.setIfInBounds_toArray, List.set_cons_zero, List.set_cons_succ]
                      refine wpAnyH_take (i := 48) (oi := { dst := some 123, op := Op.move (Operand.tmp 23), type := 25, pos := "law.go:48", after := #[{ on := 47, ground := Ground.guard }], guard := some (47, true) }) (v := ?_) rfl (by kernel_rfl) (by kernel_rfl) (by kernel_rfl) (fun _ _ _ h => h) (Or.inl ⟨by rfl, ?_⟩) (by assumption) ?_
                      rotate_left; · ((intro w hSw; (try dsimp only at hSw); go_simp); try with_reducible rfl)
                      try simp only [Act.put, List.setIfInBounds_toArray, List.set_cons_zero, List.set_cons_succ]
                      refine wpAnyH_take (i := 49) (oi := { dst := some 124, op := Op.move (Operand.tmp 27), type := 25, pos := "law.go:48", after := #[{ on := 47, ground := Ground.guard }], guard := some (47, true) }) (v := ?_) rfl (by kernel_rfl) (by kernel_rfl) (by kernel_rfl) (fun _ _ _ h => h) (Or.inl ⟨by rfl, ?_⟩) (by assumption) ?_
                      rotate_left; · ((intro w hSw; (try dsimp only at hSw); go_simp); try with_reducible rfl)
                      try simp only [Act.put, List.setIfInBounds_toArray, List.set_cons_zero, List.set_cons_succ]
                      refine wpAnyH_ready (rs := [50]) (by kernel_rfl) (by simp) ?_
                      refine AllReadyH.cons rfl (fun K hK => ?_) ?_
                      · go_simp
                        (refine (HC9.out _ hHeld.1).mono ?_; rintro e w' ⟨rfl, hk⟩)
                        refine hK.out _ _ ?_ (fun hHeld => ?_)
                        · (try dsimp only); (first | exact held12 hk hHeld | exact ⟨(Keeps.refl [] wz).drew, z0, z1, z2, z3, z4, z5, z6, z7, z8, z9, z10, z11⟩)
                        clear hK K
                        try simp only [Act.put, List.setIfInBounds_toArray, List.set_cons_zero, List.set_cons_succ]
                        refine wpAnyH_take (i := 51) (oi := { dst := some 126, op := Op.pick (Operand.tmp 122) (Operand.tmp 125) (Operand.const (Value.bool false)), type := 4, pos := "law.go:48", after := #[{ on := 47, ground := Ground.data }, { on := 50, ground := Ground.data }], guard := none }) (v := ?_) rfl (by kernel_rfl) (by kernel_rfl) (by kernel_rfl) (fun _ _ _ h => h) (Or.inl ⟨by rfl, ?_⟩) (by assumption) ?_
                        rotate_left; · ((intro w hSw; (try dsimp only at hSw); go_simp); try with_reducible rfl)
                        try simp only [Act.put, List.setIfInBounds_toArray, List.set_cons_zero, List.set_cons_succ]
                        refine wpAnyH_take (i := 52) (oi := { dst := some 127, op := Op.move (Operand.tmp 126), type := 4, pos := "law.go:48", after := #[{ on := 51, ground := Ground.data }, { on := 50, ground := Ground.chain }], guard := none }) (v := ?_) rfl (by kernel_rfl) (by kernel_rfl) (by kernel_rfl) (fun _ _ _ h => h) (Or.inl ⟨by rfl, ?_⟩) (by assumption) ?_
                        rotate_left; · ((intro w hSw; (try dsimp only at hSw); go_simp); try with_reducible rfl)
                        try simp only [Act.put, List.setIfInBounds_toArray, List.set_cons_zero, List.set_cons_succ]
                        refine wpAnyH_take (i := 53) (oi := { dst := some 128, op := Op.move (Operand.tmp 24), type := 3, pos := "law.go:48", after := #[{ on := 52, ground := Ground.guard }], guard := some (52, true) }) (v := ?_) rfl (by kernel_rfl) (by kernel_rfl) (by kernel_rfl) (fun _ _ _ h => h) (Or.inl ⟨by rfl, ?_⟩) (by assumption) ?_
                        rotate_left; · ((intro w hSw; (try dsimp only at hSw); go_simp); try with_reducible rfl)
                        try simp only [Act.put, List.setIfInBounds_toArray, List.set_cons_zero, List.set_cons_succ]
                        refine wpAnyH_take (i := 54) (oi := { dst := some 129, op := Op.move (Operand.tmp 28), type := 3, pos := "law.go:48", after := #[{ on := 52, ground := Ground.guard }], guard := some (52, true) }) (v := ?_) rfl (by kernel_rfl) (by kernel_rfl) (by kernel_rfl) (fun _ _ _ h => h) (Or.inl ⟨by rfl, ?_⟩) (by assumption) ?_
                        rotate_left; · ((intro w hSw; (try dsimp only at hSw); go_simp); try with_reducible rfl)
                        try simp only [Act.put, List.setIfInBounds_toArray, List.set_cons_zero, List.set_cons_succ]
                        refine wpAnyH_take (i := 55) (oi := { dst := some 130, op := Op.binOp BinOp.eql 3 (Operand.tmp 128) (Operand.tmp 129) 3, type := 4, pos := "law.go:48", after := #[{ on := 53, ground := Ground.data }, { on := 54, ground := Ground.data }, { on := 52, ground := Ground.guard }], guard := some (52, true) }) (v := ?_) rfl (by kernel_rfl) (by kernel_rfl) (by kernel_rfl) (fun _ _ _ h => h) (Or.inl ⟨by rfl, ?_⟩) (by assumption) ?_
                        rotate_left; · ((intro w hSw; (try dsimp only at hSw); go_simp); try with_reducible rfl)
                        try simp only [Act.put, List.setIfInBounds_toArray, List.set_cons_zero, List.set_cons_succ]
                        refine wpAnyH_take (i := 56) (oi := { dst := some 131, op := Op.pick (Operand.tmp 127) (Operand.tmp 130) (Operand.const (Value.bool false)), type := 4, pos := "law.go:48", after := #[{ on := 52, ground := Ground.data }, { on := 55, ground := Ground.data }], guard := none }) (v := ?_) rfl (by kernel_rfl) (by kernel_rfl) (by kernel_rfl) (fun _ _ _ h => h) (Or.inl ⟨by rfl, ?_⟩) (by assumption) ?_
                        rotate_left; · ((intro w hSw; (try dsimp only at hSw); go_simp); try with_reducible rfl)
                        try simp only [Act.put, List.setIfInBounds_toArray, List.set_cons_zero, List.set_cons_succ]
                        refine wpAnyH_take (i := 57) (oi := { dst := some 132, op := Op.move (Operand.tmp 131), type := 4, pos := "law.go:48", after := #[{ on := 56, ground := Ground.data }, { on := 52, ground := Ground.chain }], guard := none }) (v := ?_) rfl (by kernel_rfl) (by kernel_rfl) (by kernel_rfl) (fun _ _ _ h => h) (Or.inl ⟨by rfl, ?_⟩) (by assumption) ?_
                        rotate_left; · ((intro w hSw; (try dsimp only at hSw); go_simp); try with_reducible rfl)
                        try simp only [Act.put, List.setIfInBounds_toArray, List.set_cons_zero, List.set_cons_succ]
                        refine wpAnyH_take (i := 58) (oi := { dst := some 133, op := Op.move (Operand.tmp 25), type := 30, pos := "law.go:48", after := #[{ on := 57, ground := Ground.guard }], guard := some (57, true) }) (v := ?_) rfl (by kernel_rfl) (by kernel_rfl) (by kernel_rfl) (fun _ _ _ h => h) (Or.inl ⟨by rfl, ?_⟩) (by assumption) ?_
                        rotate_left; · ((intro w hSw; (try dsimp only at hSw); go_simp); try with_reducible rfl)
                        try simp only [Act.put, List.setIfInBounds_toArray, List.set_cons_zero, List.set_cons_succ]
                        refine wpAnyH_take (i := 59) (oi := { dst := some 134, op := Op.move (Operand.tmp 29), type := 30, pos := "law.go:48", after := #[{ on := 57, ground := Ground.guard }], guard := some (57, true) }) (v := ?_) rfl (by kernel_rfl) (by kernel_rfl) (by kernel_rfl) (fun _ _ _ h => h) (Or.inl ⟨by rfl, ?_⟩) (by assumption) ?_
                        rotate_left; · ((intro w hSw; (try dsimp only at hSw); go_simp); try with_reducible rfl)
                        try simp only [Act.put, List.setIfInBounds_toArray, List.set_cons_zero, List.set_cons_succ]
                        refine wpAnyH_take (i := 60) (oi := { dst := some 135, op := Op.binOp BinOp.eql 30 (Operand.tmp 133) (Operand.tmp 134) 30, type := 4, pos := "law.go:48", after := #[{ on := 58, ground := Ground.data }, { on := 59, ground := Ground.data }, { on := 57, ground := Ground.guard }], guard := some (57, true) }) (v := ?_) rfl (by kernel_rfl) (by kernel_rfl) (by kernel_rfl) (fun _ _ _ h => h) (Or.inl ⟨by rfl, ?_⟩) (by assumption) ?_
                        rotate_left; · ((intro w hSw; (try dsimp only at hSw); go_simp); try with_reducible rfl)
                        try simp only [Act.put, List.setIfInBounds_toArray, List.set_cons_zero, List.set_cons_succ]
                        refine wpAnyH_take (i := 61) (oi := { dst := some 136, op := Op.pick (Operand.tmp 132) (Operand.tmp 135) (Operand.const (Value.bool false)), type := 4, pos := "law.go:48", after := #[{ on := 57, ground := Ground.data }, { on := 60, ground := Ground.data }], guard := none }) (v := ?_) rfl (by kernel_rfl) (by kernel_rfl) (by kernel_rfl) (fun _ _ _ h => h) (Or.inl ⟨by rfl, ?_⟩) (by assumption) ?_
                        rotate_left; · ((intro w hSw; (try dsimp only at hSw); go_simp); try with_reducible rfl)
                        try simp only [Act.put, List.setIfInBounds_toArray, List.set_cons_zero, List.set_cons_succ]
                        refine wpAnyH_take (i := 62) (oi := { dst := some 14, op := Op.assign (Operand.tmp 136), type := 4, pos := "law.go:48", after := #[{ on := 61, ground := Ground.data }, { on := 57, ground := Ground.chain }, { on := 0, ground := Ground.phase }, { on := 1, ground := Ground.phase }, { on := 2, ground := Ground.phase }, { on := 3, ground := Ground.phase }, { on := 4, ground := Ground.phase }, { on := 5, ground := Ground.phase }, { on := 6, ground := Ground.phase }, { on := 7, ground := Ground.phase }, { on := 8, ground := Ground.phase }, { on := 9, ground := Ground.phase }, { on := 10, ground := Ground.phase }, { on := 11, ground := Ground.phase }, { on := 12, ground := Ground.phase }, { on := 13, ground := Ground.phase }, { on := 14, ground := Ground.phase }, { on := 15, ground := Ground.phase }, { on := 16, ground := Ground.phase }, { on := 17, ground := Ground.phase }, { on := 18, ground := Ground.phase }, { on := 19, ground := Ground.phase }, { on := 20, ground := Ground.phase }, { on := 21, ground := Ground.phase }, { on := 22, ground := Ground.phase }, { on := 23, ground := Ground.phase }, { on := 24, ground := Ground.phase }, { on := 25, ground := Ground.phase }, { on := 26, ground := Ground.phase }, { on := 27, ground := Ground.phase }, { on := 28, ground := Ground.phase }, { on := 29, ground := Ground.phase }, { on := 30, ground := Ground.phase }, { on := 31, ground := Ground.phase }, { on := 32, ground := Ground.phase }, { on := 33, ground := Ground.phase }, { on := 34, ground := Ground.phase }, { on := 35, ground := Ground.phase }, { on := 36, ground := Ground.phase }, { on := 37, ground := Ground.phase }, { on := 38, ground := Ground.phase }, { on := 39, ground := Ground.phase }, { on := 40, ground := Ground.phase }, { on := 41, ground := Ground.phase }, { on := 42, ground := Ground.phase }, { on := 43, ground := Ground.phase }, { on := 44, ground := Ground.phase }, { on := 45, ground := Ground.phase }, { on := 46, ground := Ground.phase }, { on := 47, ground := Ground.phase }, { on := 48, ground := Ground.phase }, { on := 49, ground := Ground.phase }, { on := 50, ground := Ground.phase }, { on := 51, ground := Ground.phase }, { on := 52, ground := Ground.phase }, { on := 53, ground := Ground.phase }, { on := 54, ground := Ground.phase }, { on := 55, ground := Ground.phase }, { on := 56, ground := Ground.phase }, { on := 57, ground := Ground.phase }, { on := 58, ground := Ground.phase }, { on := 59, ground := Ground.phase }, { on := 60, ground := Ground.phase }, { on := 61, ground := Ground.phase }], guard := none }) (v := ?_) rfl (by kernel_rfl) (by kernel_rfl) (by kernel_rfl) (fun _ _ _ h => h) (Or.inl ⟨by rfl, ?_⟩) (by assumption) ?_
                        rotate_left; · ((intro w hSw; (try dsimp only at hSw); go_simp); try with_reducible rfl)
                        try simp only [Act.put, List.setIfInBounds_toArray, List.set_cons_zero, List.set_cons_succ]
                        refine wpAnyH_done (by kernel_rfl) ?_ _
                        (go_wp2; exact bodyPost_ret (v := .bool true) (by simp [results, Tryd.results8, go_sem]) rfl ⟨rfl, HK.out.trans hHeld.1⟩)
                      exact AllReadyH.nil
                    exact AllReadyH.nil
                  exact AllReadyH.nil
                exact AllReadyH.nil
              exact AllReadyH.nil
            exact AllReadyH.nil
          exact AllReadyH.nil
        exact AllReadyH.nil
      exact AllReadyH.nil
    exact AllReadyH.nil
  exact AllReadyH.nil
end Go.Proofs.YtbcppmcjbcnlbaaDoor
