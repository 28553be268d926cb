/- The walk of the law SnapsKeeps. -/
import Derived.Test.YtbcppmcjbcnlbaaDoorSnapV
import Derived.Test.YtbcppmcjbcnlbaaDoorSnapW
namespace Go.Proofs.YtbcppmcjbcnlbaaDoor
open Go.RowKit Go.Shelf
attribute [local go_sem ↓] Go.wp_at_zero Go.wp_at_succ

theorem pool_nosnap {w : World} {b : Nat} {cs : Array Value} (h : Blk w b 24 cs) : ∀ k ∈ [b], ∀ (cs : Array Value) (fz : Nat × Nat), w.heap[k]? ≠ some (Obj.cells cs 39 fz) := by
  intro k hk cs' fz hh
  simp at hk; subst hk
  have h' : w.heap[k]? = some (.cells cs 24 (0, 0)) := h
  rw [h'] at hh
  injection hh with hh; injection hh with _ h3 _
  exact absurd h3 (by decide)
theorem PoolV.far {w : World} {a : Option Addr} {c : Nat} {V : List SV} {p : Po} (h : PoolV w a c V p) {b : Nat} {cs : Array Value} (hb : Blk w b 24 cs) (i : Nat) (v : Value) : PoolV (w.setCell ⟨b, i, none⟩ v) a c V p := by
  have hk : Keeps [b] w (w.setCell ⟨b, i, none⟩ v) := (Keeps.refl _ w).setCell (p := ⟨b, i, none⟩) (.inl (by simp)) v
  exact ⟨h.le, h.small, h.row.keepsS hk (pool_nosnap hb), h.mt.keepsS hk (pool_nostr hb)⟩
theorem keeps_box {w w1 : World} {b : Nat} {v0 v1 : Value} (h : Keeps [] w w1) (hb : w.heap.size ≤ b) : Keeps [] w ((w1.setCell ⟨b, 0, none⟩ v0).setCell ⟨b, 1, none⟩ v1) :=
  (h.setCell (p := ⟨b, 0, none⟩) (.inr hb) v0).setCell (p := ⟨b, 1, none⟩) (.inr hb) v1

theorem pin_cases {p : Po} {xs : List ByteArray} {now : Int} {q : Po} {cur err : Int} (h : pinA p xs now = (q, cur, err)) :
    (q = po0 ∧ cur = 0 ∧ err = 160) ∨ (Met p now ∧ itemsB xs = true ∧ p.next < 1000000000000 ∧ q = ⟨pinL p.l now ++ [⟨p.next, xs, now⟩], p.next + 1⟩ ∧ p.next = cur ∧ err = 0) := by
  unfold pinA at h
  split at h
  · rename_i hc
    simp only [Bool.and_eq_true, decide_eq_true_eq] at hc
    cases h
    exact .inr ⟨(check_iff _ _).1 hc.1.1, hc.1.2, hc.2, rfl, rfl, rfl⟩
  · cases h
    exact .inl ⟨rfl, rfl, rfl⟩

theorem page_cases {p : Po} {cursor from_ num now : Int} {q : Po} {page : List ByteArray} {nx err : Int} (h : pageA p cursor from_ num now = (q, page, nx, err)) :
    (q = po0 ∧ page = [] ∧ nx = 0 ∧ ¬ err = 0) ∨ (∃ (i : Nat) (s : Sn), Met p now ∧ p.l[i]? = some s ∧ s.cur = cursor ∧ q = ⟨p.l.eraseIdx i ++ [{ s with used := now }], p.next⟩ ∧ err = 0) := by
  unfold pageA at h
  split at h
  · rename_i hc
    split at h
    · cases h; exact .inl ⟨rfl, rfl, rfl, by decide⟩
    · split at h
      · cases h; exact .inl ⟨rfl, rfl, rfl, by decide⟩
      · rename_i i hi
        obtain ⟨hl, hf⟩ := findN_lt hi
        simp only [hitB, Bool.and_eq_true, beq_iff_eq] at hf
        rw [List.getElem?_eq_getElem hl] at h
        cases h
        exact .inr ⟨i, p.l[i], (check_iff _ _).1 hc, List.getElem?_eq_getElem hl, hf.1.1.1, rfl, rfl⟩
  · cases h; exact .inl ⟨rfl, rfl, rfl, by decide⟩
/-- The last listing of a pool. -/
theorem last_row {w : World} {a : Option Addr} {c : Nat} {V : List SV} {l : List Sn} {s : Sn} {next : Int} (h : PoolV w a c V ⟨l ++ [s], next⟩) :
    V.length = l.length + 1 ∧ ∃ (g off : Nat) (y : SV), a = some ⟨g, off, none⟩ ∧ w.cell? ⟨g, off + l.length * 3, none⟩ = some (.int .i64 s.cur) ∧ w.cell? ⟨g, off + l.length * 3 + 1, none⟩ = some (.slice y.ia s.items.length y.ic) ∧ StrsV w y.ia y.ic s.items := by
  have hl : V.length = l.length + 1 := by rw [h.mt.len]; simp
  obtain ⟨g, off, cs, fz, ha, hb, hat⟩ := h.row (by rintro rfl; simp at hl)
  have h1 := hat l.length (by omega)
  obtain ⟨y, hy⟩ : ∃ y, V[l.length] = y := ⟨_, rfl⟩
  have hm := h.mt.get l.length (by omega) (by simp)
  rw [hy] at hm h1
  simp only [List.getElem_append_right (Nat.le_refl _), Nat.sub_self, List.getElem_singleton] at hm
  exact ⟨hl, g, off, y, ha, by rw [← hm.1]; exact h1.1, by rw [← hm.2.2.1]; exact h1.2.1, hm.2.2.2⟩

set_option maxRecDepth 100000 in
set_option maxHeartbeats 8000000 in
theorem keepslaw_any (a : Option Addr) (c : Nat) (V : List SV) (L : List Sn) (n : Nat) (hn : V.length = n) (next : Int) (ia : Option Addr) (ic m : Nat) (xs : List ByteArray) (hm : xs.length = m) (now cursor from_ num : Int) (w : World) (hP : PoolArg w a V L) (hI : StrsArg w ia xs) (e : Nat → Addr) (he : Env w e) :
    Calls Tryd.prog 4 #[.agg #[.slice a n c, .int .i64 next], .slice ia m ic, .int .i64 now, .int .i64 cursor, .int .i64 from_, .int .i64 num] w fun r w' => r = .returned (.bool true) ∧ Keeps [] w w' := by
  have HP := Lib.hid hP
  have HI := Lib.hid hI
  have HN := Lib.hid hn
  have HM := Lib.hid hm
  have k0 := (Keeps.refl [] w).alloc (.cells #[.slice a n c, .int .i64 next] 24)
  have HK := Lib.hid k0
  have HE0 := Lib.hid he
  have HE := Lib.hid (he.keep k0)
  have HB := Lib.hid (Blk.new w 24 #[.slice a n c, .int .i64 next])
  clear hP hI hn hm he k0
  go_enter Tryd.func4, Tryd.ntmps4
  go_wp2_with (fail)
  refine (shown_any _ e HE.out).mono ?_
  rintro r w1 ⟨rfl, k1⟩
  replace HK := Lib.hid (HK.out.trans k1)
  replace HE := Lib.hid (HE.out.keep k1)
  replace HB := Lib.hid (HB.out.keeps k1 (by simp))
  have q0 := HB.out.cell 0
  have q1 := HB.out.cell 1
  clear k1
  go_wp2_with (fail)
  refine (cut_any a c V L n HN.out next w1 (HP.out.keeps HK.out)).mono ?_
  rintro r w2 ⟨a2, n2, c2, V2, rfl, hn2, hP2, k2⟩
  have hb2 := HB.out.keeps k2 (by simp)
  have q0 := hb2.cell 0
  have q1 := hb2.cell 1
  have f0 := hb2.frozen 0
  have f1 := hb2.frozen 1
  replace HB := Lib.hid ((hb2.set_ 0 (.slice a2 n2 c2)).set_ 1 (.int .i64 next))
  have HP2 := Lib.hid ((hP2.far hb2 0 (.slice a2 n2 c2)).far (hb2.set_ 0 (.slice a2 n2 c2)) 1 (.int .i64 next))
  have k2' := keeps_box (b := w.heap.size) (v0 := .slice a2 n2 c2) (v1 := .int .i64 next) (HK.out.trans k2) (Nat.le_refl _)
  replace HE := Lib.hid (HE0.out.keep k2')
  replace HK := Lib.hid k2'
  have HN2 := Lib.hid hn2
  clear k2 k2' hb2 hP2 hn2
  go_wp2_with (fail)
  refine (items_any ia ic xs m HM.out _ (HI.out.keeps HK.out)).mono ?_
  rintro r w3 ⟨a3, m3, c3, rfl, hm3, hs3, k3⟩
  replace HK := Lib.hid (HK.out.trans k3)
  replace HE := Lib.hid (HE.out.keep k3)
  replace HB := Lib.hid (HB.out.keeps k3 (by simp))
  replace HP2 := Lib.hid (HP2.out.keeps k3)
  have HM3 := Lib.hid hm3
  have HS3 := Lib.hid hs3
  have q0 := HB.out.cell 0
  have q1 := HB.out.cell 1
  obtain ⟨⟨q, cur, err⟩, hq⟩ : ∃ x, pinA ⟨cutL L, next⟩ (cutItems xs) now = x := ⟨_, rfl⟩
  obtain ⟨⟨q2, page, nx, err2⟩, hq2⟩ : ∃ x, pageA ⟨cutL L, next⟩ cursor from_ num now = x := ⟨_, rfl⟩
  have HQ := Lib.hid hq
  have HQ2 := Lib.hid hq2
  clear k3 hm3 hs3 f0 f1 hq hq2 HE0 HI HP HM HN
  go_wp2_with (fail)
  refine (pin_any a2 c2 V2 ⟨cutL L, next⟩ n2 HN2.out a3 c3 m3 (cutItems xs) HM3.out now w3 HP2.out HS3.out e HE.out q cur err HQ.out).mono ?_
  rintro r w4 ⟨a4, n4, c4, V4, rfl, hn4, hP4, k4⟩
  have k4' := k4.alloc (.cells #[.slice a4 n4 c4, .int .i64 q.next] 24)
  replace HK := Lib.hid (HK.out.trans k4')
  replace HE := Lib.hid (HE.out.keep k4')
  replace HB := Lib.hid (HB.out.keeps k4' (by simp))
  replace HP2 := Lib.hid (HP2.out.keeps k4')
  replace HS3 := Lib.hid (HS3.out.keeps k4')
  have HP4 := Lib.hid (hP4.keeps ((Keeps.refl [] w4).alloc (.cells #[.slice a4 n4 c4, .int .i64 q.next] 24)))
  have HB4 := Lib.hid (Blk.new w4 24 #[.slice a4 n4 c4, .int .i64 q.next])
  have HN4 := Lib.hid hn4
  have q0 := HB.out.cell 0
  have q1 := HB.out.cell 1
  clear k4 k4' hP4 hn4
  dsimp only
  go_wp2_with (fail)
  refine (page_any a2 c2 V2 ⟨cutL L, next⟩ n2 HN2.out cursor from_ num now _ HP2.out e HE.out q2 page nx err2 HQ2.out).mono ?_
  rintro r w5 ⟨a5, n5, c5, V5, pa, pm, pc, rfl, hn5, hP5, hpm, hs5, k5⟩
  have k5' := k5.alloc (.cells #[.slice a5 n5 c5, .int .i64 q2.next] 24)
  replace HK := Lib.hid (HK.out.trans k5')
  replace HB := Lib.hid (HB.out.keeps k5' (by simp))
  replace HB4 := Lib.hid (HB4.out.keeps k5' (by simp))
  have HB5 := Lib.hid (Blk.new w5 24 #[.slice a5 n5 c5, .int .i64 q2.next])
  replace HS3 := Lib.hid (HS3.out.keeps k5')
  replace HP4 := Lib.hid (HP4.out.keeps k5')
  have HP5 := Lib.hid (hP5.keeps ((Keeps.refl [] w5).alloc (.cells #[.slice a5 n5 c5, .int .i64 q2.next] 24)))
  have HN5 := Lib.hid hn5
  have HPM := Lib.hid hpm
  have q0 := HB.out.cell 0
  have q1 := HB.out.cell 1
  have r0 := HB4.out.cell 0
  have r1 := HB4.out.cell 1
  have t0 := HB5.out.cell 0
  have t1 := HB5.out.cell 1
  clear k5 k5' hP5 hn5 hpm hs5 HE
  dsimp only
  have HPC := Lib.hid (pin_cases HQ.out)
  clear HQ
  rcases page_cases HQ2.out with ⟨rfl, rfl, rfl, hne⟩ | ⟨i, s, hmet2, hsi, hcur, rfl, rfl⟩
  · obtain rfl : n5 = 0 := by rw [← HN5.out, HP5.out.mt.len]; rfl
    obtain rfl : pm = 0 := by rw [← HPM.out]; rfl
    rcases HPC.out with ⟨rfl, rfl, rfl⟩ | ⟨hmet, hitm, hnx, rfl, rfl, rfl⟩
    · obtain rfl : n4 = 0 := by rw [← HN4.out, HP4.out.mt.len]; rfl
      have HK6 := Lib.hid (Keeps.refl [] (w5.alloc (.cells #[.slice a5 0 c5, .int .i64 po0.next] 24)))
      go_wp2
      exact bodyPost_ret (v := .bool true) (by simp [results, Tryd.results4, go_sem, hne]) rfl ⟨rfl, HK.out⟩
    · clear HPC
      have hr4 : rightP (Po.mk (pinL (cutL L) now ++ [⟨next, cutItems xs, now⟩]) (next + 1)) = true := (right_iff _).2 (hmet.pin (cutItems xs) hitm hnx).ok
      obtain ⟨hl4, g, off, y, rfl, u0, u1, hy⟩ := last_row HP4.out
      have hpl : (pinL (cutL L) now).length ≤ 2 := pinL_len now hmet.ok.len
      obtain ⟨k, hk⟩ : ∃ k, (pinL (cutL L) now).length = k := ⟨_, rfl⟩
      dsimp only at u0 u1 hl4
      rw [hk] at u0 u1 hpl hl4
      obtain rfl : n4 = k + 1 := by rw [← HN4.out]; exact hl4
      have i0 : wrap64 (((k + 1 : Nat) : Int) - 1) = (k : Int) := by rw [show (((k + 1 : Nat) : Int) - 1) = (k : Int) by omega]; exact IntWalk.wrap64_in _ ⟨by omega, by omega⟩
      have i1 : (0 : Int) ≤ (k : Int) := by omega
      have i2 : (k : Int) < 3 := by omega
      have i3 : (k : Int) < ((k + 1 : Nat) : Int) := by omega
      have HR4 := Lib.hid hr4
      have HY := Lib.hid hy
      have HMET := Lib.hid hmet
      have HG : Hid (g < (w5.alloc (.cells #[.slice a5 0 c5, .int .i64 po0.next] 24)).heap.size) := Lib.hid (World.block_lt_of_cell? _ _ u0)
      clear hr4 hy hl4 hk hmet
      go_wp2_with (fail)
      refine (nright_any (some ⟨g, off, none⟩) c4 V4 _ (k + 1) HN4.out _ HP4.out true HR4.out).mono ?_
      rintro r w6 ⟨rfl, k6⟩
      have HK6 := Lib.hid k6
      replace HK := Lib.hid (HK.out.trans k6)
      replace HB := Lib.hid (HB.out.keeps k6 (by simp))
      replace HB4 := Lib.hid (HB4.out.keeps k6 (by simp))
      replace HB5 := Lib.hid (HB5.out.keeps k6 (by simp))
      replace HP5 := Lib.hid (HP5.out.keeps k6)
      replace HS3 := Lib.hid (HS3.out.keeps k6)
      replace HY := Lib.hid (HY.out.keeps k6)
      rw [← k6.cell (by exact HG.out) (by simp)] at u0 u1
      have q0 := HB.out.cell 0
      have q1 := HB.out.cell 1
      have r0 := HB4.out.cell 0
      have r1 := HB4.out.cell 1
      clear k6
      go_wp2_with (fail)
      refine (samestr_any y.ia a3 y.ic c3 (cutItems xs) (cutItems xs) _ m3 rfl HM3.out true (by simp) w6 HY.out HS3.out).mono ?_
      rintro r w7 ⟨rfl, k7⟩
      replace HK6 := Lib.hid (HK6.out.trans k7)
      replace HK := Lib.hid (HK.out.trans k7)
      replace HB := Lib.hid (HB.out.keeps k7 (by simp))
      replace HB4 := Lib.hid (HB4.out.keeps k7 (by simp))
      replace HB5 := Lib.hid (HB5.out.keeps k7 (by simp))
      replace HP5 := Lib.hid (HP5.out.keeps k7)
      have q0 := HB.out.cell 0
      have q1 := HB.out.cell 1
      have r0 := HB4.out.cell 0
      have r1 := HB4.out.cell 1
      have t0 := HB5.out.cell 0
      have t1 := HB5.out.cell 1
      clear k7 u0 u1
      go_wp2
      exact bodyPost_ret (v := .bool true) (by simp [results, Tryd.results4, go_sem, hne]) rfl ⟨rfl, HK.out⟩
  · have hr5 := (right_iff _).2 (hmet2.page hsi).ok
    have hi2 : i < (cutL L).length := (List.getElem?_eq_some_iff.1 hsi).1
    obtain ⟨hl5, g5, off5, y5, rfl, v0, _, _⟩ := last_row HP5.out
    have hn2 : (cutL L).length = n2 := by rw [← HP2.out.mt.len]; exact HN2.out
    obtain ⟨k5, hk5⟩ : ∃ k, ((cutL L).eraseIdx i).length = k := ⟨_, rfl⟩
    have h5 : n2 = k5 + 1 := by rw [List.length_eraseIdx_of_lt hi2] at hk5; omega
    subst h5
    dsimp only at v0 hl5 hr5
    rw [hk5] at v0 hl5
    obtain rfl : n5 = k5 + 1 := by rw [← HN5.out]; exact hl5
    have hk3 : k5 + 1 ≤ 3 := by rw [← hn2]; exact hmet2.ok.len
    subst hcur
    have HV5 : Hid (∀ W, Keeps [] (w5.alloc (.cells #[.slice (some ⟨g5, off5, none⟩) (k5 + 1) c5, .int .i64 next] 24)) W → W.cell? ⟨g5, off5 + k5 * 3, none⟩ = some (.int .i64 s.cur)) := Lib.hid (fun W hk => (hk.cell (by exact World.block_lt_of_cell? _ _ v0) (by simp)).trans v0)
    have HR5 := Lib.hid hr5
    clear v0 hl5 hr5 hk5 hn2 hi2 hmet2 hsi HQ2
    rcases HPC.out with ⟨rfl, rfl, rfl⟩ | ⟨hmet, hitm, hnx, rfl, rfl, rfl⟩
    · obtain rfl : n4 = 0 := by rw [← HN4.out, HP4.out.mt.len]; rfl
      have HK6 := Lib.hid (Keeps.refl [] (w5.alloc (.cells #[.slice (some ⟨g5, off5, none⟩) (k5 + 1) c5, .int .i64 next] 24)))
      have v0 := HV5.out _ HK6.out
      have j0 : wrap64 (((k5 + 1 : Nat) : Int) - 1) = (k5 : Int) := by rw [show (((k5 + 1 : Nat) : Int) - 1) = (k5 : Int) by omega]; exact IntWalk.wrap64_in _ ⟨by omega, by omega⟩
      have j1 : (0 : Int) ≤ (k5 : Int) := by omega
      have j3 : (k5 : Int) < ((k5 + 1 : Nat) : Int) := by omega
      go_wp2_with (fail)
      refine (nright_any (some ⟨g5, off5, none⟩) c5 V5 _ (k5 + 1) HN5.out _ HP5.out true HR5.out).mono ?_
      rintro r w8 ⟨rfl, k8⟩
      replace HK6 := Lib.hid (HK6.out.trans k8)
      replace HK := Lib.hid (HK.out.trans k8)
      replace HB := Lib.hid (HB.out.keeps k8 (by simp))
      replace HB5 := Lib.hid (HB5.out.keeps k8 (by simp))
      have q0 := HB.out.cell 0
      have q1 := HB.out.cell 1
      have t0 := HB5.out.cell 0
      have t1 := HB5.out.cell 1
      have v0 := HV5.out _ HK6.out
      clear k8
      go_wp2
      exact bodyPost_ret (v := .bool true) (by simp [results, Tryd.results4, go_sem]) rfl ⟨rfl, HK.out⟩
    · clear HPC
      have hr4 : rightP (Po.mk (pinL (cutL L) now ++ [⟨next, cutItems xs, now⟩]) (next + 1)) = true := (right_iff _).2 (hmet.pin (cutItems xs) hitm hnx).ok
      obtain ⟨hl4, g, off, y, rfl, u0, u1, hy⟩ := last_row HP4.out
      have hpl : (pinL (cutL L) now).length ≤ 2 := pinL_len now hmet.ok.len
      obtain ⟨k, hk⟩ : ∃ k, (pinL (cutL L) now).length = k := ⟨_, rfl⟩
      dsimp only at u0 u1 hl4
      rw [hk] at u0 u1 hpl hl4
      obtain rfl : n4 = k + 1 := by rw [← HN4.out]; exact hl4
      have i0 : wrap64 (((k + 1 : Nat) : Int) - 1) = (k : Int) := by rw [show (((k + 1 : Nat) : Int) - 1) = (k : Int) by omega]; exact IntWalk.wrap64_in _ ⟨by omega, by omega⟩
      have i1 : (0 : Int) ≤ (k : Int) := by omega
      have i2 : (k : Int) < 3 := by omega
      have i3 : (k : Int) < ((k + 1 : Nat) : Int) := by omega
      have HR4 := Lib.hid hr4
      have HY := Lib.hid hy
      have HMET := Lib.hid hmet
      have HG : Hid (g < (w5.alloc (.cells #[.slice (some ⟨g5, off5, none⟩) (k5 + 1) c5, .int .i64 next] 24)).heap.size) := Lib.hid (World.block_lt_of_cell? _ _ u0)
      clear hr4 hy hl4 hk hmet
      go_wp2_with (fail)
      refine (nright_any (some ⟨g, off, none⟩) c4 V4 _ (k + 1) HN4.out _ HP4.out true HR4.out).mono ?_
      rintro r w6 ⟨rfl, k6⟩
      have HK6 := Lib.hid k6
      replace HK := Lib.hid (HK.out.trans k6)
      replace HB := Lib.hid (HB.out.keeps k6 (by simp))
      replace HB4 := Lib.hid (HB4.out.keeps k6 (by simp))
      replace HB5 := Lib.hid (HB5.out.keeps k6 (by simp))
      replace HP5 := Lib.hid (HP5.out.keeps k6)
      replace HS3 := Lib.hid (HS3.out.keeps k6)
      replace HY := Lib.hid (HY.out.keeps k6)
      rw [← k6.cell (by exact HG.out) (by simp)] at u0 u1
      have q0 := HB.out.cell 0
      have q1 := HB.out.cell 1
      have r0 := HB4.out.cell 0
      have r1 := HB4.out.cell 1
      clear k6
      go_wp2_with (fail)
      refine (samestr_any y.ia a3 y.ic c3 (cutItems xs) (cutItems xs) _ m3 rfl HM3.out true (by simp) w6 HY.out HS3.out).mono ?_
      rintro r w7 ⟨rfl, k7⟩
      replace HK6 := Lib.hid (HK6.out.trans k7)
      replace HK := Lib.hid (HK.out.trans k7)
      replace HB := Lib.hid (HB.out.keeps k7 (by simp))
      replace HB4 := Lib.hid (HB4.out.keeps k7 (by simp))
      replace HB5 := Lib.hid (HB5.out.keeps k7 (by simp))
      replace HP5 := Lib.hid (HP5.out.keeps k7)
      have q0 := HB.out.cell 0
      have q1 := HB.out.cell 1
      have r0 := HB4.out.cell 0
      have r1 := HB4.out.cell 1
      have t0 := HB5.out.cell 0
      have t1 := HB5.out.cell 1
      clear k7 u0 u1
      have v0 := HV5.out _ HK6.out
      have j0 : wrap64 (((k5 + 1 : Nat) : Int) - 1) = (k5 : Int) := by rw [show (((k5 + 1 : Nat) : Int) - 1) = (k5 : Int) by omega]; exact IntWalk.wrap64_in _ ⟨by omega, by omega⟩
      have j1 : (0 : Int) ≤ (k5 : Int) := by omega
      have j3 : (k5 : Int) < ((k5 + 1 : Nat) : Int) := by omega
      go_wp2_with (fail)
      refine (nright_any (some ⟨g5, off5, none⟩) c5 V5 _ (k5 + 1) HN5.out _ HP5.out true HR5.out).mono ?_
      rintro r w8 ⟨rfl, k8⟩
      replace HK6 := Lib.hid (HK6.out.trans k8)
      replace HK := Lib.hid (HK.out.trans k8)
      replace HB := Lib.hid (HB.out.keeps k8 (by simp))
      replace HB5 := Lib.hid (HB5.out.keeps k8 (by simp))
      have q0 := HB.out.cell 0
      have q1 := HB.out.cell 1
      have t0 := HB5.out.cell 0
      have t1 := HB5.out.cell 1
      have v0 := HV5.out _ HK6.out
      clear k8
      go_wp2
      exact bodyPost_ret (v := .bool true) (by simp [results, Tryd.results4, go_sem]) rfl ⟨rfl, HK.out⟩
end Go.Proofs.YtbcppmcjbcnlbaaDoor
