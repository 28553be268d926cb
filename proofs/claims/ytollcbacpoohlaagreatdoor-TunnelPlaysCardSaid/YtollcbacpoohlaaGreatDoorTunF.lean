/- The walks of what a tunnel's calls do to one direction. -/
import Derived.Test.YtollcbacpoohlaaGreatDoorTunT
namespace Go.Proofs.YtollcbacpoohlaaGreatDoor
open Go.RowKit
attribute [local go_sem ↓] Go.wp_at_zero Go.wp_at_succ

theorem Keeps.cells {w w' : World} (h : Keeps [] w w') : ∀ p v, w.cell? p = some v → w'.cell? p = some v := fun p _ hv => (h.cell (World.block_lt_of_cell? w p hv) (by simp)).trans hv

theorem Keeps.cellsA {w w' : World} (h : Keeps [] w w') : ∀ p v o, w.cell? p = some v → (w'.alloc o).cell? p = some v := fun p v o hv =>
  (h.alloc o).cells p v hv

/-- An error by its number. -/
def errW (z : Int) : Value := if z = 0 then .nilIface else .iface 75 (.agg #[.int .i64 z])
theorem told_any (z : Int) (w : World) (hg : Et w) : Calls Tryz.prog 31 #[errW z] w fun e w' => e = .returned (.int .i64 z) ∧ Keeps [] w w' := by
  unfold errW
  by_cases h : z = 0
  · subst h; rw [if_pos rfl]; exact told_nil w
  · rw [if_neg h]; exact told_why z w hg

section
variable {w w' : World} {L : WL} {cap : Nat} {y : Wy}
theorem WyAt.drain_ (L : WL) : L.b ∈ L.l ∧ L.i ∈ L.l ∧ L.ib ∈ L.l ∧ L.o ∈ L.l ∧ L.ob ∈ L.l := by simp [WL.l]
end

set_option maxHeartbeats 1000000 in
theorem drain1_any (L : WL) (cap : Nat) (y : Wy) (n : Int) (t : ByteArray) (ht : str (y.o.take n.toNat) = t) (nb sb : Nat) (s0 : ByteArray) (hsb : sb ∉ L.l) (w : World) (h : WyAt w L cap y) (hn : Blk w nb 3 #[.int .i64 n]) (hs : Blk w sb 9 #[.string s0]) :
    Calls Tryz.prog 41 #[.pointer (some ⟨L.b, 0, none⟩), .pointer (some ⟨nb, 0, none⟩), .pointer (some ⟨sb, 0, none⟩)] w fun e w' => e = .returned .nilIface ∧ WyAt w' L cap (y.drain n) ∧ Blk w' sb 9 #[.string t] ∧ Keeps (sb :: L.l) w w' := by
  have hc := hn.cell 0
  have HD := Lib.hid (ydrain_any L cap y n t ht)
  have H := Lib.hid h
  have HS := Lib.hid hs
  have HSB := Lib.hid hsb
  clear ht h hn hs hsb
  go_enter Tryz.func41, Tryz.ntmps41
  go_wp2_with (fail)
  refine (HD.out _ H.out).mono ?_
  rintro e w1 ⟨rfl, hy, hk⟩
  have hs1 := HS.out.keeps hk HSB.out
  have s0 := hs1.cell 0
  have f0 := hs1.frozen 0
  have HY := Lib.hid hy
  have HK := Lib.hid hk
  have HS1 := Lib.hid hs1
  clear hy hk hs1
  go_wp2
  go_ret
  have hk2 : Keeps [sb] w1 (w1.setCell ⟨sb, 0, none⟩ (.string t)) := (Keeps.refl [sb] w1).setCell (p := ⟨sb, 0, none⟩) (.inl (by simp)) _
  have hb := HSB.out
  exact ⟨rfl, HY.out.keeps hk2 (fun k hk hm => by simp only [List.mem_singleton] at hm; subst hm; exact hb hk), by simpa using HS1.out.set_ 0 (.string t), (HK.out.mono (by simp +contextual)).trans (hk2.mono (by simp))⟩

set_option maxHeartbeats 1000000 in
theorem feed1_closed (L : WL) (tb sb xb nb b : Nat) (st : Nat) (side : Int) (ho : openB st side = false) (w : World) (ht : Blk w tb 25 #[.pointer (some ⟨b, 0, none⟩)]) (hs : Blk w sb 3 #[.int .i64 side]) (h0 : w.cell? ⟨b, 0, none⟩ = some (.int .i64 st)) :
    Calls Tryz.prog 33 #[.pointer (some ⟨L.b, 0, none⟩), .pointer (some ⟨tb, 0, none⟩), .pointer (some ⟨sb, 0, none⟩), .pointer (some ⟨xb, 0, none⟩), .pointer (some ⟨nb, 0, none⟩)] w fun e w' => e = .returned (.iface 75 (.agg #[.int .i64 171])) ∧ Keeps [] w w' := by
  have hc := ht.cell 0
  have hd := hs.cell 0
  have HO := Lib.hid (uisOpen_any st side false ho)
  clear ho ht hs
  go_enter Tryz.func33, Tryz.ntmps33
  go_wp2_with (fail)
  go_region_held3 (fun w' => w'.cell? ⟨tb, 0, none⟩ = some (.pointer (some ⟨b, 0, none⟩)) ∧ w'.cell? ⟨sb, 0, none⟩ = some (.int .i64 side) ∧ w'.cell? ⟨b, 0, none⟩ = some (.int .i64 st)) (first | go_keep | exact trivial) (first | (go_at_call 34; refine (HO.out _).mono ?_; rintro e w1 ⟨rfl, hk⟩; have hcs := hk.cells))
  have HK := Lib.hid (((Keeps.refl [] w).drew).trans hk)
  clear hk hcs hc hd h0
  go_wp2
  go_ret
  exact ⟨rfl, HK.out⟩

set_option maxHeartbeats 2000000 in
theorem feed1_open (L : WL) (cap : Nat) (y : Wy) (tb sb xb nb b : Nat) (st : Nat) (side : Int) (ho : openB st side = true) (s : ByteArray) (hsz : s.size ≤ 1000000) (k : Nat) (hkk : y.n cap s.data.toList = k) (n0 : Int) (w : World) (ht : Blk w tb 25 #[.pointer (some ⟨b, 0, none⟩)]) (hs : Blk w sb 3 #[.int .i64 side]) (hx : Blk w xb 9 #[.string s])
    (hn : Blk w nb 3 #[.int .i64 n0]) (hnb : nb ∉ L.l) (h0 : w.cell? ⟨b, 0, none⟩ = some (.int .i64 st)) (h : WyAt w L cap y) :
    Calls Tryz.prog 33 #[.pointer (some ⟨L.b, 0, none⟩), .pointer (some ⟨tb, 0, none⟩), .pointer (some ⟨sb, 0, none⟩), .pointer (some ⟨xb, 0, none⟩), .pointer (some ⟨nb, 0, none⟩)] w fun e w' => e = .returned .nilIface ∧ WyAt w' L cap (y.feed cap s.data.toList) ∧ Blk w' nb 3 #[.int .i64 k] ∧ Keeps (nb :: L.l) w w' := by
  have hc := ht.cell 0
  have hd := hs.cell 0
  have hxc := hx.cell 0
  have HO := Lib.hid (uisOpen_any st side true ho)
  have HF := Lib.hid (yfeed_any L cap y s k hkk hsz)
  have H := Lib.hid h
  have HN := Lib.hid hn
  have HNB := Lib.hid hnb
  clear ho ht hs hx hn hnb h hkk
  go_enter Tryz.func33, Tryz.ntmps33
  go_wp2_with (fail)
  go_region_held3 (fun w' => w'.cell? ⟨tb, 0, none⟩ = some (.pointer (some ⟨b, 0, none⟩)) ∧ w'.cell? ⟨sb, 0, none⟩ = some (.int .i64 side) ∧ w'.cell? ⟨b, 0, none⟩ = some (.int .i64 st)) (first | go_keep | exact trivial) (first | (go_at_call 34; refine (HO.out _).mono ?_; rintro e w1 ⟨rfl, hk⟩; have hcs := hk.cells))
  have hk1 := ((Keeps.refl [] w).drew).trans hk
  have hxc1 := hk1.cells _ _ hxc
  have HK := Lib.hid hk1
  clear hk hk1 hcs hc hd h0 hxc
  go_wp2_with (fail)
  refine (HF.out _ (H.out.keeps HK.out (by simp))).mono ?_
  rintro e w2 ⟨rfl, hy, hk⟩
  have hs1 := (HN.out.keeps HK.out (by simp)).keeps hk HNB.out
  have s0 := hs1.cell 0
  have f0 := hs1.frozen 0
  have HY := Lib.hid hy
  have HK2 := Lib.hid ((HK.out.mono (by simp)).trans hk)
  have HS1 := Lib.hid hs1
  clear hy hk hs1 hxc1
  go_wp2
  go_ret
  have hk2 : Keeps [nb] w2 (w2.setCell ⟨nb, 0, none⟩ (.int .i64 k)) := (Keeps.refl [nb] w2).setCell (p := ⟨nb, 0, none⟩) (.inl (by simp)) _
  have hb := HNB.out
  exact ⟨rfl, HY.out.keeps hk2 (fun k hk hm => by simp only [List.mem_singleton] at hm; subst hm; exact hb hk), by simpa using HS1.out.set_ 0 (.int .i64 k), (HK2.out.mono (by simp +contextual)).trans (hk2.mono (by simp))⟩

set_option maxHeartbeats 1000000 in
theorem move1_closed (L : WL) (tb xb nb b : Nat) (st : Nat) (ho : decide (2 ≤ st ∧ st ≤ 5) = false) (w : World) (ht : Blk w tb 25 #[.pointer (some ⟨b, 0, none⟩)]) (h0 : w.cell? ⟨b, 0, none⟩ = some (.int .i64 st)) :
    Calls Tryz.prog 38 #[.pointer (some ⟨L.b, 0, none⟩), .pointer (some ⟨tb, 0, none⟩), .pointer (some ⟨xb, 0, none⟩), .pointer (some ⟨nb, 0, none⟩)] w fun e w' => e = .returned (.iface 75 (.agg #[.int .i64 171])) ∧ Keeps [] w w' := by
  have hc := ht.cell 0
  have HO := Lib.hid (umoves_any st false ho)
  clear ho ht
  go_enter Tryz.func38, Tryz.ntmps38
  go_wp2_with (fail)
  refine (HO.out _).mono ?_
  rintro e w1 ⟨rfl, hk⟩
  have HK := Lib.hid hk
  clear hk hc h0
  go_wp2
  go_ret
  exact ⟨rfl, HK.out⟩

set_option maxHeartbeats 1000000 in
theorem move1_arg (L : WL) (tb xb nb b : Nat) (st : Nat) (ho : decide (2 ≤ st ∧ st ≤ 5) = true) (n : Int) (hn : n < 0) (w : World) (ht : Blk w tb 25 #[.pointer (some ⟨b, 0, none⟩)]) (hx : Blk w xb 3 #[.int .i64 n]) (h0 : w.cell? ⟨b, 0, none⟩ = some (.int .i64 st)) :
    Calls Tryz.prog 38 #[.pointer (some ⟨L.b, 0, none⟩), .pointer (some ⟨tb, 0, none⟩), .pointer (some ⟨xb, 0, none⟩), .pointer (some ⟨nb, 0, none⟩)] w fun e w' => e = .returned (.iface 75 (.agg #[.int .i64 2])) ∧ Keeps [] w w' := by
  have hc := ht.cell 0
  have hxc := hx.cell 0
  have HO := Lib.hid (umoves_any st true ho)
  clear ho ht hx
  go_enter Tryz.func38, Tryz.ntmps38
  go_wp2_with (fail)
  refine (HO.out _).mono ?_
  rintro e w1 ⟨rfl, hk⟩
  have hxc1 := hk.cells _ _ hxc
  have HK := Lib.hid hk
  clear hk hc h0 hxc
  go_wp2
  go_ret
  exact ⟨rfl, HK.out⟩

set_option maxHeartbeats 2000000 in
theorem move1_any (L : WL) (cap : Nat) (y : Wy) (tb xb nb b : Nat) (st : Nat) (ho : decide (2 ≤ st ∧ st ≤ 5) = true) (n : Nat) (k : Nat) (hkk : y.k cap n = k) (n0 : Int) (w : World) (ht : Blk w tb 25 #[.pointer (some ⟨b, 0, none⟩)]) (hx : Blk w xb 3 #[.int .i64 n])
    (hn : Blk w nb 3 #[.int .i64 n0]) (hnb : nb ∉ L.l) (h0 : w.cell? ⟨b, 0, none⟩ = some (.int .i64 st)) (h : WyAt w L cap y) :
    Calls Tryz.prog 38 #[.pointer (some ⟨L.b, 0, none⟩), .pointer (some ⟨tb, 0, none⟩), .pointer (some ⟨xb, 0, none⟩), .pointer (some ⟨nb, 0, none⟩)] w fun e w' => e = .returned .nilIface ∧ WyAt w' L cap (y.move cap n) ∧ Blk w' nb 3 #[.int .i64 k] ∧ Keeps (nb :: L.l) w w' := by
  have hc := ht.cell 0
  have hxc := hx.cell 0
  have HO := Lib.hid (umoves_any st true ho)
  have HF := Lib.hid (ymove_any L cap y n k hkk)
  have H := Lib.hid h
  have HN := Lib.hid hn
  have HNB := Lib.hid hnb
  clear ho ht hx hn hnb h hkk
  go_enter Tryz.func38, Tryz.ntmps38
  go_wp2_with (fail)
  refine (HO.out _).mono ?_
  rintro e w1 ⟨rfl, hk⟩
  have hxc1 := hk.cells _ _ hxc
  have HK := Lib.hid hk
  clear hk hc h0 hxc
  go_wp2_with (fail)
  refine (HF.out _ (H.out.keeps HK.out (by simp))).mono ?_
  rintro e w2 ⟨rfl, hy, hk⟩
  have hs1 := (HN.out.keeps HK.out (by simp)).keeps hk HNB.out
  have s0 := hs1.cell 0
  have f0 := hs1.frozen 0
  have HY := Lib.hid hy
  have HK2 := Lib.hid ((HK.out.mono (by simp)).trans hk)
  have HS1 := Lib.hid hs1
  clear hy hk hs1 hxc1
  go_wp2
  go_ret
  have hk2 : Keeps [nb] w2 (w2.setCell ⟨nb, 0, none⟩ (.int .i64 k)) := (Keeps.refl [nb] w2).setCell (p := ⟨nb, 0, none⟩) (.inl (by simp)) _
  have hb := HNB.out
  exact ⟨rfl, HY.out.keeps hk2 (fun k hk hm => by simp only [List.mem_singleton] at hm; subst hm; exact hb hk), by simpa using HS1.out.set_ 0 (.int .i64 k), (HK2.out.mono (by simp +contextual)).trans (hk2.mono (by simp))⟩

set_option maxHeartbeats 2000000 in
theorem counts1_any (L : WL) (cap : Nat) (y : Wy) (fb mb db : Nat) (w : World) (hf : Blk w fb 3 #[.int .i64 0]) (hm : Blk w mb 3 #[.int .i64 0]) (hd : Blk w db 3 #[.int .i64 0]) (hne : fb ≠ mb ∧ fb ≠ db ∧ mb ≠ db) (hnn : fb ≠ L.b ∧ mb ≠ L.b ∧ db ≠ L.b) (h : WyAt w L cap y) :
    Calls Tryz.prog 60 #[.pointer (some ⟨L.b, 0, none⟩), .pointer (some ⟨fb, 0, none⟩), .pointer (some ⟨mb, 0, none⟩), .pointer (some ⟨db, 0, none⟩)] w fun e w' => e = .returned .nilIface ∧ Blk w' fb 3 #[.int .i64 y.f] ∧ Blk w' mb 3 #[.int .i64 y.s] ∧ Blk w' db 3 #[.int .i64 y.d] ∧ Keeps [fb, mb, db] w w' := by
  have c4 := h.c4
  have c5 := h.c5
  have c6 := h.c6
  have a0 := hf.cell 0
  have b0 := hm.cell 0
  have d0 := hd.cell 0
  have af := hf.frozen 0
  have bf := hm.frozen 0
  have df := hd.frozen 0
  have HF := Lib.hid hf
  have HM := Lib.hid hm
  have HD := Lib.hid hd
  obtain ⟨n1, n2, n3⟩ := hne
  obtain ⟨m1, m2, m3⟩ := hnn
  clear hf hm hd h
  go_enter Tryz.func60, Tryz.ntmps60
  go_wp2_with (fail)
  go_region_held3 (fun w' => w'.cell? ⟨L.b, 4, none⟩ = some (.int .i64 y.f) ∧ w'.cell? ⟨L.b, 5, none⟩ = some (.int .i64 y.s) ∧ w'.cell? ⟨L.b, 6, none⟩ = some (.int .i64 y.d)) (go_keep) (fail)
  go_wp2
  go_ret
  have k1 := (Keeps.refl [fb, mb, db] w).setCell (p := ⟨fb, 0, none⟩) (.inl (by simp)) (.int .i64 y.f)
  have k2 := k1.setCell (p := ⟨mb, 0, none⟩) (.inl (by simp)) (.int .i64 y.s)
  have k3 := k2.setCell (p := ⟨db, 0, none⟩) (.inl (by simp)) (.int .i64 y.d)
  refine ⟨rfl, ?_, ?_, ?_, k3.drew⟩
  · exact (((by simpa using HF.out.set_ 0 (.int .i64 y.f) : Blk _ fb 3 #[.int .i64 y.f]).far (p := ⟨mb, 0, none⟩) n1 _).far (p := ⟨db, 0, none⟩) n2 _).drew
  · exact ((by simpa using (HM.out.far (p := ⟨fb, 0, none⟩) (Ne.symm n1) _).set_ 0 (.int .i64 y.s) : Blk _ mb 3 #[.int .i64 y.s]).far (p := ⟨db, 0, none⟩) n3 _).drew
  · exact (by simpa using ((HD.out.far (p := ⟨fb, 0, none⟩) (Ne.symm n2) _).far (p := ⟨mb, 0, none⟩) (Ne.symm n3) _).set_ 0 (.int .i64 y.d) : Blk _ db 3 #[.int .i64 y.d]).drew

theorem grant_eq (y : Wy) (n x z : Int) (s : Int) (h : grantA y.g y.s n = (x, s, z)) : (z = 0 → y.grant n = { y with g := y.g + n.toNat } ∧ x = ((y.g + n.toNat : Nat) : Int) ∧ s = y.s) ∧ (z ≠ 0 → y.grant n = y) := by
  constructor
  · rintro rfl
    have h0 : (grantA y.g y.s n).2.2 = 0 := by rw [h]
    have h1 := (grantA_ok h0).2.2.2
    rw [h] at h1
    unfold Wy.grant
    rw [if_pos h0]
    simp only [Prod.mk.injEq] at h1
    exact ⟨rfl, h1.1, h1.2.1⟩
  · intro hz
    unfold Wy.grant
    rw [if_neg (by rw [h]; exact hz)]

set_option maxRecDepth 100000 in
set_option maxHeartbeats 2000000 in
theorem grant1_any (L : WL) (cap : Nat) (y : Wy) (n x s z : Int) (hx : grantA y.g y.s n = (x, s, z)) (nb : Nat) (w : World) (hn : Blk w nb 3 #[.int .i64 n]) (h : WyAt w L cap y) :
    Calls Tryz.prog 36 #[.pointer (some ⟨L.b, 0, none⟩), .pointer (some ⟨nb, 0, none⟩)] w fun e w' => e = .returned (errW z) ∧ WyAt w' L cap (y.grant n) ∧ Keeps L.l w w' := by
  have c2 := h.c2
  have c3 := h.c3
  have hnc : w.cell? ⟨nb, 0, none⟩ = some (.int .i64 n) := hn.cell 0
  have hl1 : L.b ≠ w.heap.size := Nat.ne_of_lt (World.block_lt_of_cell? w _ c2)
  have hl2 : nb ≠ w.heap.size := Nat.ne_of_lt (World.block_lt_of_cell? w _ hnc)
  have HG := Lib.hid (grant_eq y n x z s hx)
  have HC := Lib.hid (cGrant_any y.g y.s n h.ok.c x s z hx)
  have H := Lib.hid h
  clear hn h hx
  go_enter Tryz.func36, Tryz.ntmps36
  go_wp2_with (fail)
  go_cut [4, 5] (fun p q wx => ∃ b : Nat, p = .pointer (some ⟨b, 0, none⟩) ∧ q = .int .i64 z ∧ Blk wx b 64 #[.int .i64 x, .int .i64 s] ∧ Keeps [] w wx)
  case first =>
    go_region_held3 (fun w' => w'.cell? ⟨L.b, 2, none⟩ = some (.int .i64 y.g) ∧ w'.cell? ⟨L.b, 3, none⟩ = some (.int .i64 y.s) ∧ w'.cell? ⟨nb, 0, none⟩ = some (.int .i64 n)) (first | go_keep | exact trivial) (first | (go_at_call 37; refine (HC.out _).mono ?_; rintro e w1 ⟨rfl, hk⟩; have z1 := fun o => hk.cellsA ⟨nb, 0, none⟩ (.int .i64 n) o; have z2 := fun o => hk.cellsA ⟨L.b, 2, none⟩ (.int .i64 y.g) o; have z3 := fun o => hk.cellsA ⟨L.b, 3, none⟩ (.int .i64 y.s) o; have z4 := hk.cells ⟨nb, 0, none⟩ (.int .i64 n); have z5 := hk.cells ⟨L.b, 2, none⟩ (.int .i64 y.g); have z6 := hk.cells ⟨L.b, 3, none⟩ (.int .i64 y.s); try (have hbn := Blk.keeps (Blk.drew (Blk.new w 64 #[.int .i64 0, .int .i64 0])) hk (by simp); have y0 := hbn.cell 0; have y1 := hbn.cell 1; have y2 := hbn.frozen 0; have y3 := hbn.frozen 1; have hkk := (((Keeps.refl [] w).alloc (.cells #[.int .i64 0, .int .i64 0] 64)).drew).trans hk; have u1 := fun p q => (keeps_st2 hkk (Nat.le_refl _) p q).cells _ _ c2; have u2 := fun p q => (keeps_st2 hkk (Nat.le_refl _) p q).cells _ _ c3; have u3 := fun p q => (keeps_st2 hkk (Nat.le_refl _) p q).cells _ _ hnc)))
    all_goals go_wp2_with (fail)
    all_goals go_meet
    · exact ⟨_, rfl, rfl, Blk.new w1 _ _, (((Keeps.refl [] w).drew).trans hk).alloc _⟩
    · exact ⟨_, rfl, rfl, by simpa using (hbn.set_ 0 (.int .i64 x)).set_ 1 (.int .i64 s), keeps_st2 hkk (Nat.le_refl _) _ _⟩
  case rest =>
    obtain ⟨b, rfl, rfl, hb, hK⟩ := hcut
    have d0 := hb.cell 0
    have d1 := hb.cell 1
    simp only [List.getElem?_toArray, List.getElem?_cons_zero, List.getElem?_cons_succ] at d0 d1
    have h1 := H.out.keeps hK (by simp)
    have HH := Lib.hid h1
    have HK := Lib.hid hK
    have c2 := h1.c2
    have c3 := h1.c3
    have f2 := h1.head.frozen 2
    have f3 := h1.head.frozen 3
    clear hb hK h1 hnc hl1 hl2
    by_cases hz : z = 0
    · obtain ⟨g1, g2, g3⟩ := HG.out.1 hz
      subst hz
      have G1 := Lib.hid g1
      have G2 := Lib.hid g2
      have G3 := Lib.hid g3
      clear g1 g2 g3
      go_wp2
      go_ret
      have hb := (blk7_set HH.out.head).2.2.2 (.int .i64 x) (.int .i64 s)
      have hk2 : Keeps [L.b] wc ((wc.setCell ⟨L.b, 2, none⟩ (.int .i64 x)).setCell ⟨L.b, 3, none⟩ (.int .i64 s)) :=
        ((Keeps.refl [L.b] wc).setCell (p := ⟨L.b, 2, none⟩) (.inl (by simp)) _).setCell (p := ⟨L.b, 3, none⟩) (.inl (by simp)) _
      obtain ⟨a1, a2, a3, a4, _⟩ := H.out.ne
      refine ⟨by simp [errW], ⟨?_, ?_, ?_, H.out.nd, H.out.ok.grant n⟩, (HK.out.mono (by simp)).trans (hk2.mono (by simp [WL.l]))⟩
      · rw [G1.out]
        rw [G2.out, G3.out] at hb ⊢
        exact hb
      · rw [G1.out]
        exact HH.out.fi.keeps hk2 (by simpa using fun e => a1 e.symm) (by simpa using fun e => a2 e.symm)
      · rw [G1.out]
        exact HH.out.fo.keeps hk2 (by simpa using fun e => a3 e.symm) (by simpa using fun e => a4 e.symm)
    · have HG2 := Lib.hid (HG.out.2 hz)
      have HE : Hid (errW z = .iface 75 (.agg #[.int .i64 z])) := if_neg hz
      have hz' : (z != 0) = true := by simpa using hz
      clear hz
      go_wp2
      go_ret
      exact ⟨by rw [HE.out]; rfl, by rw [HG2.out]; exact HH.out, HK.out.mono (by simp)⟩
end Go.Proofs.YtollcbacpoohlaaGreatDoor
