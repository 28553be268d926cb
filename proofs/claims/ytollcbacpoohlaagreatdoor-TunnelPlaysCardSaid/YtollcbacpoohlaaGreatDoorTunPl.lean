/- The walk of TunnelPlays: the tunnel and the document's, call for call. Printed by gen_tunPl.py. -/
import Derived.Test.YtollcbacpoohlaaGreatDoorTunRP
namespace Go.Proofs.YtollcbacpoohlaaGreatDoor
open Go.RowKit
attribute [local go_sem ↓] Go.wp_at_zero Go.wp_at_succ

/-- Behind some calls of a new tunnel. -/
def runZ (cap : Nat) (xs : List Op1) : Tu := xs.foldl (fun t x => (t.act cap x).2) Tu.zero
theorem runZ_snoc (cap : Nat) (xs : List Op1) (x : Op1) : runZ cap (xs ++ [x]) = ((runZ cap xs).act cap x).2 := by simp [runZ]

structure Apt (L : TL) (T : RT) (g : Nat) : Prop where
  lt : ∀ k ∈ L.l, k ∉ T.l
  g : g ∉ L.l ++ T.l
  z : 0 ∉ L.l ++ T.l

/-- Both tunnels in memory, and the call at hand. -/
structure TwoT (L : TL) (T : RT) (cap g k : Nat) (x : Op1) (w0 : World) (t u : Tu) (w : World) : Prop where
  a : TuAt w L cap t
  b : RtAt w T cap u
  kp : Keeps (L.l ++ T.l) w0 w
  e : Et w
  c0 : w.cell? ⟨g, k * 4, none⟩ = some (.int .i64 x.kind)
  c1 : w.cell? ⟨g, k * 4 + 1, none⟩ = some (.int .i64 x.side)
  c2 : w.cell? ⟨g, k * 4 + 2, none⟩ = some (.int .i64 x.n)
  c3 : w.cell? ⟨g, k * 4 + 3, none⟩ = some (.string x.s)
section
variable {L : TL} {T : RT} {cap g k : Nat} {x : Op1} {w0 w w' : World} {t u t' u' : Tu}
theorem TwoT.s (h : TwoT L T cap g k x w0 t u w) : w.cell? ⟨g, k * 4, none⟩ = some (.int .i64 x.kind) ∧ w.cell? ⟨g, k * 4 + 1, none⟩ = some (.int .i64 x.side) ∧ w.cell? ⟨g, k * 4 + 2, none⟩ = some (.int .i64 x.n) ∧ w.cell? ⟨g, k * 4 + 3, none⟩ = some (.string x.s) := ⟨h.c0, h.c1, h.c2, h.c3⟩
theorem TwoT.next (h : TwoT L T cap g k x w0 t u w) (ap : Apt L T g) {S : List Nat} (hS : ∀ k ∈ S, k ∈ L.l ++ T.l) (hk : Keeps S w w') (ha : TuAt w' L cap t') (hb : RtAt w' T cap u') : TwoT L T cap g k x w0 t' u' w' := by
  have hg : g ∉ S := fun hm => ap.g (hS _ hm)
  exact ⟨ha, hb, h.kp.trans (hk.mono hS), h.e.keeps hk (fun hm => ap.z (hS _ hm)), (hk.cell (World.block_lt_of_cell? w _ h.c0) hg).trans h.c0, (hk.cell (World.block_lt_of_cell? w _ h.c1) hg).trans h.c1, (hk.cell (World.block_lt_of_cell? w _ h.c2) hg).trans h.c2, (hk.cell (World.block_lt_of_cell? w _ h.c3) hg).trans h.c3⟩
theorem TwoT.keep (h : TwoT L T cap g k x w0 t u w) (ap : Apt L T g) (hk : Keeps [] w w') : TwoT L T cap g k x w0 t u w' := h.next ap (by simp) hk (h.a.keep hk) (h.b.keep hk)
theorem TwoT.do_ (h : TwoT L T cap g k x w0 t u w) (ap : Apt L T g) (hsz : x.s.size ≤ 1000000) (n : Nat) (q : List UInt8) (qs : ByteArray) (hqs : str q = qs) (r : Int) (hr : t.act cap x = ((n, q, r), t')) :
    Calls Tryz.prog 11 #[.pointer (some ⟨L.b, 0, none⟩), .agg #[.int .i64 x.kind, .int .i64 x.side, .int .i64 x.n, .string x.s]] w fun e w' => e = .returned (.agg #[.int .i64 n, .string qs, .int .i64 r]) ∧ TwoT L T cap g k x w0 t' u w' := by
  subst hqs
  refine (do_any L cap t t' x hsz n q r hr w h.e h.a).mono ?_
  rintro e w' ⟨rfl, ha, hk⟩
  exact ⟨rfl, h.next ap (fun k hk => List.mem_append_left _ hk) hk ha (h.b.keeps hk (fun k h1 h2 => ap.lt k h2 h1))⟩
theorem TwoT.want_ (h : TwoT L T cap g k x w0 t u w) (ap : Apt L T g) (hsz : x.s.size ≤ 1000000) (n : Nat) (q : List UInt8) (qs : ByteArray) (hqs : str q = qs) (r : Int) (hr : u.act cap x = ((n, q, r), u')) :
    Calls Tryz.prog 12 #[.pointer (some ⟨T.b, 0, none⟩), .agg #[.int .i64 x.kind, .int .i64 x.side, .int .i64 x.n, .string x.s]] w fun e w' => e = .returned (.agg #[.int .i64 n, .string qs, .int .i64 r]) ∧ TwoT L T cap g k x w0 t u' w' := by
  subst hqs
  refine (want_any T cap u u' x hsz n q r hr w h.b).mono ?_
  rintro e w' ⟨rfl, hb, hk⟩
  exact ⟨rfl, h.next ap (fun k hk => List.mem_append_right _ hk) hk (h.a.keeps hk (fun k h1 h2 => ap.lt k h1 h2)) hb⟩
end

set_option maxRecDepth 100000 in
set_option maxHeartbeats 4000000 in
theorem plays_bad (n : Int) (hn : n < 1 ∨ 4096 < n) (a : Option Addr) (xs : List Op1) (c : Nat) (w : World) (hx : OpsArg w a xs) (hE : Et w) :
    Calls Tryz.prog 3 #[.int .i64 n, .slice a xs.length c] w fun e w' => e = .returned (.bool true) ∧ Keeps [] w w' := by
  have HN := Lib.hid hn
  have HX := Lib.hid hx
  have HE := Lib.hid hE
  clear hn hx hE
  go_enter Tryz.func3, Tryz.ntmps3
  go_wp2_with (fail)
  refine (shown_any _ HE.out).mono ?_
  rintro e w1 ⟨rfl, hk⟩
  have HK1 := Lib.hid hk
  clear hk
  go_wp2_with (fail)
  refine (cutops_g _ a c xs (HX.out.keeps HK1.out (by simp))).mono ?_
  rintro e w2 ⟨a', c', g, rfl, -, -, hk⟩
  have HK2 := Lib.hid (HK1.out.trans hk)
  clear hk
  go_wp2_with (fail)
  refine (uNew_bad n _ HN.out).mono ?_
  rintro e w3 ⟨rfl, hk⟩
  have HK3 := Lib.hid (HK2.out.trans hk)
  clear hk
  go_wp2_with (fail)
  refine (vNew_bad n _ HN.out).mono ?_
  rintro e w4 ⟨rfl, hk⟩
  have HK4 := Lib.hid (HK3.out.trans hk)
  clear hk
  go_wp2_with (fail)
  refine (uEvent_nil 1 _).mono ?_
  rintro e w5 ⟨rfl, rfl⟩
  go_wp2_with (fail)
  refine (uState_nil _).mono ?_
  rintro e w5 ⟨rfl, rfl⟩
  go_wp2_with (fail)
  refine (uStop_nil _).mono ?_
  rintro e w5 ⟨rfl, rfl⟩
  go_wp2
  go_ret
  exact ⟨rfl, HK4.out⟩

set_option maxRecDepth 100000 in
set_option maxHeartbeats 8000000 in
theorem plays_ok (cap : Nat) (h1 : 1 ≤ cap) (h2 : cap ≤ 4096) (a : Option Addr) (xs : List Op1) (c : Nat) (w : World) (hx : OpsArg w a xs) (hE : Et w) :
    Calls Tryz.prog 3 #[.int .i64 cap, .slice a xs.length c] w fun e w' => e = .returned (.bool true) ∧ Keeps [] w w' := by
  have HX := Lib.hid hx
  have HE := Lib.hid hE
  have hyl := cutOps_length xs
  have hys := cutOps_size xs
  obtain ⟨ys, hye⟩ : ∃ ys, cutOps xs = ys := ⟨_, rfl⟩
  rw [hye] at hyl hys
  have HYS := Lib.hid hys
  have HYE := Lib.hid hye
  clear hE hx hys hye
  go_enter Tryz.func3, Tryz.ntmps3
  go_wp2_with (fail)
  refine (shown_any _ HE.out).mono ?_
  rintro e w1 ⟨rfl, hk⟩
  have HK1 := Lib.hid hk
  have HE1 := Lib.hid (HE.out.keeps hk (by simp))
  clear hk
  go_wp2_with (fail)
  refine (cutops_g _ a c xs (HX.out.keeps HK1.out (by simp))).mono ?_
  rintro e w2 ⟨a', c', g, rfl, hin, hgl, hk⟩
  have hye := HYE.out
  rw [hye] at hin
  rw [hye]
  clear hye
  have HK2 := Lib.hid (HK1.out.trans hk)
  have HE2 := Lib.hid (HE1.out.keeps hk (by simp))
  have HIN := Lib.hid hin
  clear hk hin hgl
  go_wp2_with (fail)
  refine (uNew_ok cap _ h1 h2 HE2.out).mono ?_
  rintro e w3 ⟨L, rfl, ht, hk, hlo⟩
  have HT3 := Lib.hid ht
  have HK3 := Lib.hid (HK2.out.trans hk)
  have HIN3 := Lib.hid (HIN.out.keeps hk (by simp))
  have HE3 := Lib.hid (HE2.out.keeps hk (by simp))
  have HLO := Lib.hid hlo
  have HK23 := Lib.hid hk
  clear ht hk hlo
  go_wp2_with (fail)
  refine (vNew_ok cap _ h1 h2).mono ?_
  rintro e w4 ⟨T, rfl, ht, hk, hlo⟩
  have HR4 := Lib.hid ht
  have HT4 := Lib.hid (HT3.out.keep hk)
  have HK4 := Lib.hid (HK3.out.trans hk)
  have HIN4 := Lib.hid (HIN3.out.keeps hk (by simp))
  have HE4 := Lib.hid (HE3.out.keeps hk (by simp))
  have hgT : ∀ k ∈ T.l, w3.heap.size ≤ k := hlo
  have hAP : 0 < ys.length → Apt L T g := fun hy => by
    have hL := HT3.out.lt
    have hg2 : g < w2.heap.size := (HIN.out hy).2.1
    have hz2 : 0 < w2.heap.size := World.block_lt_of_cell? w2 _ HE2.out
    have hs := HK23.out.size
    refine ⟨fun k h1 h2 => ?_, fun hm => ?_, fun hm => ?_⟩
    · have := hL k h1; have := hgT k h2; omega
    · rcases List.mem_append.1 hm with hm | hm
      · have := HLO.out _ hm; omega
      · have := hgT _ hm; omega
    · rcases List.mem_append.1 hm with hm | hm
      · have := HLO.out _ hm; omega
      · have := hgT _ hm; omega
  have HAP0 := Lib.hid hAP
  have HLT : Hid (∀ k ∈ L.l ++ T.l, w.heap.size ≤ k) := Lib.hid (fun k hm => by
    have := HK2.out.size
    have := HK3.out.size
    rcases List.mem_append.1 hm with hm | hm
    · have := HLO.out _ hm; omega
    · have := hgT _ hm; omega)
  clear ht hk hlo hAP hgT
  go_wp2
  go_loopw [10] (fun i wr => ∃ k : Nat, i = .int .i64 k ∧ k ≤ ys.length ∧ Hid (TuAt wr L cap (runZ cap (ys.take k))) ∧ Hid (RtAt wr T cap (runZ cap (ys.take k))) ∧ Hid (Keeps (L.l ++ T.l) w4 wr)) (fun i _ => ys.length - (intOf i).toNat)
  case atStart => exact ⟨0, rfl, Nat.zero_le _, HT4, HR4, (Keeps.refl _ _ : Keeps (L.l ++ T.l) w4 w4)⟩
  case round =>
    obtain ⟨k, rfl, hk, HT, HR0, HK⟩ := hrel
    by_cases hlt : k < ys.length
    · have hap := HAP0.out (by omega)
      have HAP := Lib.hid hap
      have hin := HIN4.out.keeps HK.out hap.g
      obtain ⟨x, rfl, hx, d0, d1, d2, d3⟩ := hin.at_ hlt
      have i1 : (0 : Int) ≤ (k : Int) := by omega
      have i2 : (k : Int) < (ys.length : Int) := by omega
      obtain ⟨hk', hx'⟩ := List.getElem?_eq_some_iff.1 hx
      have htk : ys.take (k + 1) = ys.take k ++ [x] := by rw [List.take_succ_eq_append_getElem hlt, hx']
      obtain ⟨t, htt⟩ : ∃ t, runZ cap (ys.take k) = t := ⟨_, rfl⟩
      obtain ⟨n, q, r, t', hact⟩ : ∃ n q r t', t.act cap x = ((n, q, r), t') := ⟨_, _, _, _, rfl⟩
      obtain ⟨qs, hqs⟩ : ∃ qs, str q = qs := ⟨_, rfl⟩
      have hrun : t' = runZ cap (ys.take (k + 1)) := by rw [htk, runZ_snoc, htt, hact]
      have hsz : x.s.size ≤ 1000000 := by have := HYS.out x (by rw [← hx']; exact List.getElem_mem _); omega
      rw [htt] at HT HR0
      have h0 : TwoT L T cap g k x w4 t t wr.drew := (TwoT.keep ⟨HT.out, HR0.out, HK.out, HE4.out.keeps HK.out hap.z, d0, d1, d2, d3⟩ hap (Keeps.refl [] wr).drew)
      have HDO := Lib.hid (fun (wz : World) (u : Tu) (hz : TwoT L T cap g k x w4 t u wz) => hz.do_ hap hsz n q qs hqs r hact)
      have HWA := Lib.hid (fun (wz : World) (s : Tu) (hz : TwoT L T cap g k x w4 s t wz) => hz.want_ hap hsz n q qs hqs r hact)
      have HST := Lib.hid (fun (wz : World) (hz : TwoT L T cap g k x w4 t' t' wz) => uState_any L cap t' wz hz.a)
      have HSM := Lib.hid (fun (side : Int) (wz : World) (hz : TwoT L T cap g k x w4 t' t' wz) => same_any L T cap t' side wz hz.a hz.b)
      have HR := Lib.hid hrun
      have hgu := said_guard
      have hne := said_neq n r qs
      clear hin hx hk' hx' htk hact hrun hqs htt hsz hap HT HR0
      go_wp2_with (fail)
      refine wp_region_held_drew (S := (fun w' : World => w'.cell? ⟨g, k * 4, none⟩ = some (.int .i64 x.kind) ∧ w'.cell? ⟨g, k * 4 + 1, none⟩ = some (.int .i64 x.side) ∧ w'.cell? ⟨g, k * 4 + 2, none⟩ = some (.int .i64 x.n) ∧ w'.cell? ⟨g, k * 4 + 3, none⟩ = some (.string x.s))) (by kernel_rfl) ?_ (fun hHeld => ?_)
      · (try dsimp only); (first | exact h5.s | exact h4.s | exact h3.s | exact h2.s | exact h1.s | exact h0.s)
      refine wpAnyH_take (i := 0) (oi := { dst := some 51, op := Op.move (Operand.tmp 6), type := 25, pos := "law.go:114", after := #[], guard := none }) (v := ?_) rfl (by kernel_rfl) (by kernel_rfl) (by kernel_rfl) (fun _ _ _ h => h) (Or.inl ⟨by rfl, ?_⟩) (by assumption) ?_
      rotate_left; · ((intro w hSw; (try dsimp only at hSw); go_simp); try with_reducible rfl)
      try simp only [Act.put, List.setIfInBounds_toArray, List.set_cons_zero, List.set_cons_succ]
      refine wpAnyH_take (i := 1) (oi := { dst := some 52, op := Op.move (Operand.tmp 1), type := 22, pos := "law.go:114", after := #[], guard := none }) (v := ?_) rfl (by kernel_rfl) (by kernel_rfl) (by kernel_rfl) (fun _ _ _ h => h) (Or.inl ⟨by rfl, ?_⟩) (by assumption) ?_
      rotate_left; · ((intro w hSw; (try dsimp only at hSw); go_simp); try with_reducible rfl)
      try simp only [Act.put, List.setIfInBounds_toArray, List.set_cons_zero, List.set_cons_succ]
      refine wpAnyH_take (i := 2) (oi := { dst := some 53, op := Op.move (Operand.tmp 10), type := 3, pos := "law.go:114", after := #[], guard := none }) (v := ?_) rfl (by kernel_rfl) (by kernel_rfl) (by kernel_rfl) (fun _ _ _ h => h) (Or.inl ⟨by rfl, ?_⟩) (by assumption) ?_
      rotate_left; · ((intro w hSw; (try dsimp only at hSw); go_simp); try with_reducible rfl)
      try simp only [Act.put, List.setIfInBounds_toArray, List.set_cons_zero, List.set_cons_succ]
      refine wpAnyH_take (i := 3) (oi := { dst := some 54, op := Op.indexAddr 22 (Operand.tmp 52) (Operand.tmp 53), type := 0, pos := "law.go:114", after := #[{ on := 1, ground := Ground.data }, { on := 2, ground := Ground.data }], guard := none }) (v := ?_) rfl (by kernel_rfl) (by kernel_rfl) (by kernel_rfl) (fun _ _ _ h => h) (Or.inl ⟨by rfl, ?_⟩) (by assumption) ?_
      rotate_left; · ((intro w hSw; (try dsimp only at hSw); go_simp); try with_reducible rfl)
      try simp only [Act.put, List.setIfInBounds_toArray, List.set_cons_zero, List.set_cons_succ]
      refine wpAnyH_take (i := 4) (oi := { dst := some 55, op := Op.load 38 (Operand.tmp 54), type := 38, pos := "law.go:114", after := #[{ on := 3, ground := Ground.data }], guard := none }) (v := ?_) rfl (by kernel_rfl) (by kernel_rfl) (by kernel_rfl) (fun _ _ _ h => h) (Or.inl ⟨by rfl, ?_⟩) (by assumption) ?_
      rotate_left; · ((intro w hSw; (try dsimp only at hSw); go_simp); try with_reducible rfl)
      try simp only [Act.put, List.setIfInBounds_toArray, List.set_cons_zero, List.set_cons_succ]
      refine wpAnyH_take (i := 6) (oi := { dst := some 57, op := Op.move (Operand.tmp 8), type := 29, pos := "law.go:114", after := #[], guard := none }) (v := ?_) rfl (by kernel_rfl) (by kernel_rfl) (by kernel_rfl) (fun _ _ _ h => h) (Or.inl ⟨by rfl, ?_⟩) (by assumption) ?_
      rotate_left; · ((intro w hSw; (try dsimp only at hSw); go_simp); try with_reducible rfl)
      try simp only [Act.put, List.setIfInBounds_toArray, List.set_cons_zero, List.set_cons_succ]
      refine wpAnyH_take (i := 7) (oi := { dst := some 58, op := Op.move (Operand.tmp 1), type := 22, pos := "law.go:114", after := #[], guard := none }) (v := ?_) rfl (by kernel_rfl) (by kernel_rfl) (by kernel_rfl) (fun _ _ _ h => h) (Or.inl ⟨by rfl, ?_⟩) (by assumption) ?_
      rotate_left; · ((intro w hSw; (try dsimp only at hSw); go_simp); try with_reducible rfl)
      try simp only [Act.put, List.setIfInBounds_toArray, List.set_cons_zero, List.set_cons_succ]
      refine wpAnyH_take (i := 8) (oi := { dst := some 59, op := Op.move (Operand.tmp 10), type := 3, pos := "law.go:114", after := #[], guard := none }) (v := ?_) rfl (by kernel_rfl) (by kernel_rfl) (by kernel_rfl) (fun _ _ _ h => h) (Or.inl ⟨by rfl, ?_⟩) (by assumption) ?_
      rotate_left; · ((intro w hSw; (try dsimp only at hSw); go_simp); try with_reducible rfl)
      try simp only [Act.put, List.setIfInBounds_toArray, List.set_cons_zero, List.set_cons_succ]
      refine wpAnyH_take (i := 9) (oi := { dst := some 60, op := Op.indexAddr 22 (Operand.tmp 58) (Operand.tmp 59), type := 0, pos := "law.go:114", after := #[{ on := 7, ground := Ground.data }, { on := 8, ground := Ground.data }], guard := none }) (v := ?_) rfl (by kernel_rfl) (by kernel_rfl) (by kernel_rfl) (fun _ _ _ h => h) (Or.inl ⟨by rfl, ?_⟩) (by assumption) ?_
      rotate_left; · ((intro w hSw; (try dsimp only at hSw); go_simp); try with_reducible rfl)
      try simp only [Act.put, List.setIfInBounds_toArray, List.set_cons_zero, List.set_cons_succ]
      refine wpAnyH_take (i := 10) (oi := { dst := some 61, op := Op.load 38 (Operand.tmp 60), type := 38, pos := "law.go:114", after := #[{ on := 9, ground := Ground.data }], guard := none }) (v := ?_) rfl (by kernel_rfl) (by kernel_rfl) (by kernel_rfl) (fun _ _ _ h => h) (Or.inl ⟨by rfl, ?_⟩) (by assumption) ?_
      rotate_left; · ((intro w hSw; (try dsimp only at hSw); go_simp); try with_reducible rfl)
      try simp only [Act.put, List.setIfInBounds_toArray, List.set_cons_zero, List.set_cons_succ]
      refine wpAnyH_ready (rs := [5]) (by kernel_rfl) (by simp) ?_
      refine AllReadyH.cons rfl (fun K hK => ?_) ?_
      · go_simp
        (refine (HDO.out _ _ h0).mono ?_; rintro e w1' ⟨rfl, h1⟩)
        refine hK.out _ _ ?_ (fun hHeld => ?_)
        · (try dsimp only); (first | exact h5.s | exact h4.s | exact h3.s | exact h2.s | exact h1.s | exact h0.s)
        clear hK K
        try simp only [Act.put, List.setIfInBounds_toArray, List.set_cons_zero, List.set_cons_succ]
        refine wpAnyH_ready (rs := [11]) (by kernel_rfl) (by simp) ?_
        refine AllReadyH.cons rfl (fun K hK => ?_) ?_
        · go_simp
          (refine (HWA.out _ _ h1).mono ?_; rintro e w2' ⟨rfl, h2⟩; have z0 := h2.b.c0)
          refine hK.out _ _ ?_ (fun hHeld => ?_)
          · (try dsimp only); (first | exact h5.s | exact h4.s | exact h3.s | exact h2.s | exact h1.s | exact h0.s)
          clear hK K
          try simp only [Act.put, List.setIfInBounds_toArray, List.set_cons_zero, List.set_cons_succ]
          refine wpAnyH_take (i := 12) (oi := { dst := some 63, op := Op.binOp BinOp.neq 35 (Operand.tmp 56) (Operand.tmp 62) 35, type := 4, pos := "law.go:114", after := #[{ on := 5, ground := Ground.data }, { on := 11, ground := Ground.data }], guard := none }) (v := ?_) rfl (by kernel_rfl) (by kernel_rfl) (by kernel_rfl) (fun _ _ _ h => h) (Or.inl ⟨by rfl, ?_⟩) (by assumption) ?_
          rotate_left; · ((intro w hSw; (try dsimp only at hSw); go_simp); try with_reducible rfl)
          try simp only [Act.put, List.setIfInBounds_toArray, List.set_cons_zero, List.set_cons_succ]
          refine wpAnyH_take (i := 13) (oi := { dst := some 64, op := Op.move (Operand.tmp 63), type := 4, pos := "law.go:114", after := #[{ on := 12, ground := Ground.data }, { on := 11, ground := Ground.chain }], guard := none }) (v := ?_) rfl (by kernel_rfl) (by kernel_rfl) (by kernel_rfl) (fun _ _ _ h => h) (Or.inl ⟨by rfl, ?_⟩) (by assumption) ?_
          rotate_left; · ((intro w hSw; (try dsimp only at hSw); go_simp); try with_reducible rfl)
          try simp only [Act.put, List.setIfInBounds_toArray, List.set_cons_zero, List.set_cons_succ]
          refine wpAnyH_take (i := 14) (oi := { dst := some 65, op := Op.move (Operand.tmp 6), type := 25, pos := "law.go:114", after := #[{ on := 13, ground := Ground.guard }], guard := some (13, false) }) (v := ?_) rfl (by kernel_rfl) (by kernel_rfl) (by kernel_rfl) (fun _ _ _ h => h) (Or.inl ⟨by rfl, ?_⟩) (by assumption) ?_
          rotate_left; · ((intro w hSw; (try dsimp only at hSw); go_simp); try with_reducible rfl)
          try simp only [Act.put, List.setIfInBounds_toArray, List.set_cons_zero, List.set_cons_succ]
          refine wpAnyH_take (i := 16) (oi := { dst := some 67, op := Op.move (Operand.tmp 8), type := 29, pos := "law.go:114", after := #[{ on := 13, ground := Ground.guard }], guard := some (13, false) }) (v := ?_) rfl (by kernel_rfl) (by kernel_rfl) (by kernel_rfl) (fun _ _ _ h => h) (Or.inl ⟨by rfl, ?_⟩) (by assumption) ?_
          rotate_left; · ((intro w hSw; (try dsimp only at hSw); go_simp); try with_reducible rfl)
          try simp only [Act.put, List.setIfInBounds_toArray, List.set_cons_zero, List.set_cons_succ]
          refine wpAnyH_take (i := 17) (oi := { dst := some 68, op := Op.nilCheck (Operand.tmp 67), type := 0, pos := "law.go:114", after := #[{ on := 16, ground := Ground.data }, { on := 13, ground := Ground.guard }], guard := some (13, false) }) (v := ?_) rfl (by kernel_rfl) (by kernel_rfl) (by kernel_rfl) (fun _ _ _ h => h) (Or.inl ⟨by rfl, ?_⟩) (by assumption) ?_
          rotate_left; · ((intro w hSw; (try dsimp only at hSw); go_simp); try with_reducible rfl)
          try simp only [Act.put, List.setIfInBounds_toArray, List.set_cons_zero, List.set_cons_succ]
          refine wpAnyH_take (i := 18) (oi := { dst := some 69, op := Op.fieldAddr 43 (Operand.tmp 68) 0, type := 0, pos := "law.go:114", after := #[{ on := 17, ground := Ground.data }, { on := 13, ground := Ground.guard }], guard := some (13, false) }) (v := ?_) rfl (by kernel_rfl) (by kernel_rfl) (by kernel_rfl) (fun _ _ _ h => h) (Or.inl ⟨by rfl, ?_⟩) (by assumption) ?_
          rotate_left; · ((intro w hSw; (try dsimp only at hSw); go_simp); try with_reducible rfl)
          try simp only [Act.put, List.setIfInBounds_toArray, List.set_cons_zero, List.set_cons_succ]
          refine wpAnyH_ready (rs := [15, 19]) (by kernel_rfl) (by simp) ?_
          refine AllReadyH.cons rfl (fun K hK => ?_) ?_
          · go_simp
            (refine (HST.out _ h2).mono ?_; rintro e w3' ⟨rfl, rfl⟩)
            refine hK.out _ _ ?_ (fun hHeld => ?_)
            · (try dsimp only); (first | exact h5.s | exact h4.s | exact h3.s | exact h2.s | exact h1.s | exact h0.s)
            clear hK K
            try simp only [Act.put, List.setIfInBounds_toArray, List.set_cons_zero, List.set_cons_succ]
            refine wpAnyH_ready (rs := [19]) (by kernel_rfl) (by simp) ?_
            refine AllReadyH.cons rfl (fun K hK => ?_) ?_
            · go_simp
              refine hK.out _ _ ?_ (fun hHeld => ?_)
              · (try dsimp only); (first | exact h5.s | exact h4.s | exact h3.s | exact h2.s | exact h1.s | exact h0.s)
              clear hK K
              try simp only [Act.put, List.setIfInBounds_toArray, List.set_cons_zero, List.set_cons_succ]
              refine wpAnyH_take (i := 20) (oi := { dst := some 71, op := Op.binOp BinOp.neq 3 (Operand.tmp 66) (Operand.tmp 70) 3, type := 4, pos := "law.go:114", after := #[{ on := 15, ground := Ground.data }, { on := 19, ground := Ground.data }, { on := 13, ground := Ground.guard }], guard := some (13, false) }) (v := ?_) rfl (by kernel_rfl) (by kernel_rfl) (by kernel_rfl) (fun _ _ _ h => h) (Or.inl ⟨by rfl, ?_⟩) (by assumption) ?_
              rotate_left; · ((intro w hSw; (try dsimp only at hSw); go_simp); try with_reducible rfl)
              try simp only [Act.put, List.setIfInBounds_toArray, List.set_cons_zero, List.set_cons_succ]
              refine wpAnyH_take (i := 21) (oi := { dst := some 72, op := Op.pick (Operand.tmp 64) (Operand.const (Value.bool true)) (Operand.tmp 71), type := 4, pos := "law.go:114", after := #[{ on := 13, ground := Ground.data }, { on := 20, ground := Ground.data }], guard := none }) (v := ?_) rfl (by kernel_rfl) (by kernel_rfl) (by kernel_rfl) (fun _ _ _ h => h) (Or.inl ⟨by rfl, ?_⟩) (by assumption) ?_
              rotate_left; · ((intro w hSw; (try dsimp only at hSw); go_simp); try with_reducible rfl)
              try simp only [Act.put, List.setIfInBounds_toArray, List.set_cons_zero, List.set_cons_succ]
              refine wpAnyH_take (i := 22) (oi := { dst := some 73, op := Op.move (Operand.tmp 72), type := 4, pos := "law.go:114", after := #[{ on := 21, ground := Ground.data }, { on := 15, ground := Ground.chain }], guard := none }) (v := ?_) rfl (by kernel_rfl) (by kernel_rfl) (by kernel_rfl) (fun _ _ _ h => h) (Or.inl ⟨by rfl, ?_⟩) (by assumption) ?_
              rotate_left; · ((intro w hSw; (try dsimp only at hSw); go_simp); try with_reducible rfl)
              try simp only [Act.put, List.setIfInBounds_toArray, List.set_cons_zero, List.set_cons_succ]
              refine wpAnyH_take (i := 23) (oi := { dst := some 74, op := Op.move (Operand.tmp 6), type := 25, pos := "law.go:114", after := #[{ on := 22, ground := Ground.guard }], guard := some (22, false) }) (v := ?_) rfl (by kernel_rfl) (by kernel_rfl) (by kernel_rfl) (fun _ _ _ h => h) (Or.inl ⟨by rfl, ?_⟩) (by assumption) ?_
              rotate_left; · ((intro w hSw; (try dsimp only at hSw); go_simp); try with_reducible rfl)
              try simp only [Act.put, List.setIfInBounds_toArray, List.set_cons_zero, List.set_cons_succ]
              refine wpAnyH_take (i := 24) (oi := { dst := some 75, op := Op.move (Operand.tmp 8), type := 29, pos := "law.go:114", after := #[{ on := 22, ground := Ground.guard }], guard := some (22, false) }) (v := ?_) rfl (by kernel_rfl) (by kernel_rfl) (by kernel_rfl) (fun _ _ _ h => h) (Or.inl ⟨by rfl, ?_⟩) (by assumption) ?_
              rotate_left; · ((intro w hSw; (try dsimp only at hSw); go_simp); try with_reducible rfl)
              try simp only [Act.put, List.setIfInBounds_toArray, List.set_cons_zero, List.set_cons_succ]
              refine wpAnyH_ready (rs := [25]) (by kernel_rfl) (by simp) ?_
              refine AllReadyH.cons rfl (fun K hK => ?_) ?_
              · go_simp
                (refine (HSM.out _ _ h2).mono ?_; rintro e w4 ⟨rfl, hk4⟩; have h3 := h2.keep HAP.out hk4)
                refine hK.out _ _ ?_ (fun hHeld => ?_)
                · (try dsimp only); (first | exact h5.s | exact h4.s | exact h3.s | exact h2.s | exact h1.s | exact h0.s)
                clear hK K
                try simp only [Act.put, List.setIfInBounds_toArray, List.set_cons_zero, List.set_cons_succ]
                refine wpAnyH_take (i := 26) (oi := { dst := some 77, op := Op.unOp UnOp.not 4 (Operand.tmp 76), type := 4, pos := "law.go:114", after := #[{ on := 25, ground := Ground.data }, { on := 22, ground := Ground.guard }], guard := some (22, false) }) (v := ?_) rfl (by kernel_rfl) (by kernel_rfl) (by kernel_rfl) (fun _ _ _ h => h) (Or.inl ⟨by rfl, ?_⟩) (by assumption) ?_
                rotate_left; · ((intro w hSw; (try dsimp only at hSw); go_simp); try with_reducible rfl)
                try simp only [Act.put, List.setIfInBounds_toArray, List.set_cons_zero, List.set_cons_succ]
                refine wpAnyH_take (i := 27) (oi := { dst := some 78, op := Op.pick (Operand.tmp 73) (Operand.const (Value.bool true)) (Operand.tmp 77), type := 4, pos := "law.go:114", after := #[{ on := 22, ground := Ground.data }, { on := 26, ground := Ground.data }], guard := none }) (v := ?_) rfl (by kernel_rfl) (by kernel_rfl) (by kernel_rfl) (fun _ _ _ h => h) (Or.inl ⟨by rfl, ?_⟩) (by assumption) ?_
                rotate_left; · ((intro w hSw; (try dsimp only at hSw); go_simp); try with_reducible rfl)
                try simp only [Act.put, List.setIfInBounds_toArray, List.set_cons_zero, List.set_cons_succ]
                refine wpAnyH_take (i := 28) (oi := { dst := some 79, op := Op.move (Operand.tmp 78), type := 4, pos := "law.go:114", after := #[{ on := 27, ground := Ground.data }, { on := 25, ground := Ground.chain }], guard := none }) (v := ?_) rfl (by kernel_rfl) (by kernel_rfl) (by kernel_rfl) (fun _ _ _ h => h) (Or.inl ⟨by rfl, ?_⟩) (by assumption) ?_
                rotate_left; · ((intro w hSw; (try dsimp only at hSw); go_simp); try with_reducible rfl)
                try simp only [Act.put, List.setIfInBounds_toArray, List.set_cons_zero, List.set_cons_succ]
                refine wpAnyH_take (i := 29) (oi := { dst := some 80, op := Op.move (Operand.tmp 6), type := 25, pos := "law.go:114", after := #[{ on := 28, ground := Ground.guard }], guard := some (28, false) }) (v := ?_) rfl (by kernel_rfl) (by kernel_rfl) (by kernel_rfl) (fun _ _ _ h => h) (Or.inl ⟨by rfl, ?_⟩) (by assumption) ?_
                rotate_left; · ((intro w hSw; (try dsimp only at hSw); go_simp); try with_reducible rfl)
                try simp only [Act.put, List.setIfInBounds_toArray, List.set_cons_zero, List.set_cons_succ]
                refine wpAnyH_take (i := 30) (oi := { dst := some 81, op := Op.move (Operand.tmp 8), type := 29, pos := "law.go:114", after := #[{ on := 28, ground := Ground.guard }], guard := some (28, false) }) (v := ?_) rfl (by kernel_rfl) (by kernel_rfl) (by kernel_rfl) (fun _ _ _ h => h) (Or.inl ⟨by rfl, ?_⟩) (by assumption) ?_
                rotate_left; · ((intro w hSw; (try dsimp only at hSw); go_simp); try with_reducible rfl)
                try simp only [Act.put, List.setIfInBounds_toArray, List.set_cons_zero, List.set_cons_succ]
                refine wpAnyH_ready (rs := [31]) (by kernel_rfl) (by simp) ?_
                refine AllReadyH.cons rfl (fun K hK => ?_) ?_
                · go_simp
                  (refine (HSM.out _ _ h3).mono ?_; rintro e w5' ⟨rfl, hk5⟩; have h4 := h3.keep HAP.out hk5)
                  refine hK.out _ _ ?_ (fun hHeld => ?_)
                  · (try dsimp only); (first | exact h5.s | exact h4.s | exact h3.s | exact h2.s | exact h1.s | exact h0.s)
                  clear hK K
                  try simp only [Act.put, List.setIfInBounds_toArray, List.set_cons_zero, List.set_cons_succ]
                  refine wpAnyH_take (i := 32) (oi := { dst := some 83, op := Op.unOp UnOp.not 4 (Operand.tmp 82), type := 4, pos := "law.go:114", after := #[{ on := 31, ground := Ground.data }, { on := 28, ground := Ground.guard }], guard := some (28, false) }) (v := ?_) rfl (by kernel_rfl) (by kernel_rfl) (by kernel_rfl) (fun _ _ _ h => h) (Or.inl ⟨by rfl, ?_⟩) (by assumption) ?_
                  rotate_left; · ((intro w hSw; (try dsimp only at hSw); go_simp); try with_reducible rfl)
                  try simp only [Act.put, List.setIfInBounds_toArray, List.set_cons_zero, List.set_cons_succ]
                  refine wpAnyH_take (i := 33) (oi := { dst := some 84, op := Op.pick (Operand.tmp 79) (Operand.const (Value.bool true)) (Operand.tmp 83), type := 4, pos := "law.go:114", after := #[{ on := 28, ground := Ground.data }, { on := 32, ground := Ground.data }], guard := none }) (v := ?_) rfl (by kernel_rfl) (by kernel_rfl) (by kernel_rfl) (fun _ _ _ h => h) (Or.inl ⟨by rfl, ?_⟩) (by assumption) ?_
                  rotate_left; · ((intro w hSw; (try dsimp only at hSw); go_simp); try with_reducible rfl)
                  try simp only [Act.put, List.setIfInBounds_toArray, List.set_cons_zero, List.set_cons_succ]
                  refine wpAnyH_take (i := 34) (oi := { dst := some 85, op := Op.move (Operand.tmp 84), type := 4, pos := "law.go:114", after := #[{ on := 33, ground := Ground.data }, { on := 31, ground := Ground.chain }], guard := none }) (v := ?_) rfl (by kernel_rfl) (by kernel_rfl) (by kernel_rfl) (fun _ _ _ h => h) (Or.inl ⟨by rfl, ?_⟩) (by assumption) ?_
                  rotate_left; · ((intro w hSw; (try dsimp only at hSw); go_simp); try with_reducible rfl)
                  try simp only [Act.put, List.setIfInBounds_toArray, List.set_cons_zero, List.set_cons_succ]
                  refine wpAnyH_take (i := 35) (oi := { dst := some 86, op := Op.move (Operand.tmp 6), type := 25, pos := "law.go:114", after := #[{ on := 34, ground := Ground.guard }], guard := some (34, false) }) (v := ?_) rfl (by kernel_rfl) (by kernel_rfl) (by kernel_rfl) (fun _ _ _ h => h) (Or.inl ⟨by rfl, ?_⟩) (by assumption) ?_
                  rotate_left; · ((intro w hSw; (try dsimp only at hSw); go_simp); try with_reducible rfl)
                  try simp only [Act.put, List.setIfInBounds_toArray, List.set_cons_zero, List.set_cons_succ]
                  refine wpAnyH_take (i := 36) (oi := { dst := some 87, op := Op.move (Operand.tmp 8), type := 29, pos := "law.go:114", after := #[{ on := 34, ground := Ground.guard }], guard := some (34, false) }) (v := ?_) rfl (by kernel_rfl) (by kernel_rfl) (by kernel_rfl) (fun _ _ _ h => h) (Or.inl ⟨by rfl, ?_⟩) (by assumption) ?_
                  rotate_left; · ((intro w hSw; (try dsimp only at hSw); go_simp); try with_reducible rfl)
                  try simp only [Act.put, List.setIfInBounds_toArray, List.set_cons_zero, List.set_cons_succ]
                  refine wpAnyH_take (i := 37) (oi := { dst := some 88, op := Op.move (Operand.tmp 1), type := 22, pos := "law.go:114", after := #[{ on := 34, ground := Ground.guard }], guard := some (34, false) }) (v := ?_) rfl (by kernel_rfl) (by kernel_rfl) (by kernel_rfl) (fun _ _ _ h => h) (Or.inl ⟨by rfl, ?_⟩) (by assumption) ?_
                  rotate_left; · ((intro w hSw; (try dsimp only at hSw); go_simp); try with_reducible rfl)
                  try simp only [Act.put, List.setIfInBounds_toArray, List.set_cons_zero, List.set_cons_succ]
                  refine wpAnyH_take (i := 38) (oi := { dst := some 89, op := Op.move (Operand.tmp 10), type := 3, pos := "law.go:114", after := #[{ on := 34, ground := Ground.guard }], guard := some (34, false) }) (v := ?_) rfl (by kernel_rfl) (by kernel_rfl) (by kernel_rfl) (fun _ _ _ h => h) (Or.inl ⟨by rfl, ?_⟩) (by assumption) ?_
                  rotate_left; · ((intro w hSw; (try dsimp only at hSw); go_simp); try with_reducible rfl)
                  try simp only [Act.put, List.setIfInBounds_toArray, List.set_cons_zero, List.set_cons_succ]
                  refine wpAnyH_take (i := 39) (oi := { dst := some 90, op := Op.indexAddr 22 (Operand.tmp 88) (Operand.tmp 89), type := 0, pos := "law.go:114", after := #[{ on := 37, ground := Ground.data }, { on := 38, ground := Ground.data }, { on := 34, ground := Ground.guard }], guard := some (34, false) }) (v := ?_) rfl (by kernel_rfl) (by kernel_rfl) (by kernel_rfl) (fun _ _ _ h => h) (Or.inl ⟨by rfl, ?_⟩) (by assumption) ?_
                  rotate_left; · ((intro w hSw; (try dsimp only at hSw); go_simp); try with_reducible rfl)
                  try simp only [Act.put, List.setIfInBounds_toArray, List.set_cons_zero, List.set_cons_succ]
                  refine wpAnyH_take (i := 40) (oi := { dst := some 91, op := Op.fieldAddr 38 (Operand.tmp 90) 1, type := 0, pos := "law.go:114", after := #[{ on := 39, ground := Ground.data }, { on := 34, ground := Ground.guard }], guard := some (34, false) }) (v := ?_) rfl (by kernel_rfl) (by kernel_rfl) (by kernel_rfl) (fun _ _ _ h => h) (Or.inl ⟨by rfl, ?_⟩) (by assumption) ?_
                  rotate_left; · ((intro w hSw; (try dsimp only at hSw); go_simp); try with_reducible rfl)
                  try simp only [Act.put, List.setIfInBounds_toArray, List.set_cons_zero, List.set_cons_succ]
                  refine wpAnyH_take (i := 41) (oi := { dst := some 92, op := Op.load 3 (Operand.tmp 91), type := 3, pos := "law.go:114", after := #[{ on := 40, ground := Ground.data }, { on := 34, ground := Ground.guard }], guard := some (34, false) }) (v := ?_) rfl (by kernel_rfl) (by kernel_rfl) (by kernel_rfl) (fun _ _ _ h => h) (Or.inl ⟨by rfl, ?_⟩) (by assumption) ?_
                  rotate_left; · ((intro w hSw; (try dsimp only at hSw); go_simp); try with_reducible rfl)
                  try simp only [Act.put, List.setIfInBounds_toArray, List.set_cons_zero, List.set_cons_succ]
                  refine wpAnyH_ready (rs := [42]) (by kernel_rfl) (by simp) ?_
                  refine AllReadyH.cons rfl (fun K hK => ?_) ?_
                  · go_simp
                    (refine (HSM.out _ _ h4).mono ?_; rintro e w6' ⟨rfl, hk6⟩; have h5 := h4.keep HAP.out hk6)
                    refine hK.out _ _ ?_ (fun hHeld => ?_)
                    · (try dsimp only); (first | exact h5.s | exact h4.s | exact h3.s | exact h2.s | exact h1.s | exact h0.s)
                    clear hK K
                    try simp only [Act.put, List.setIfInBounds_toArray, List.set_cons_zero, List.set_cons_succ]
                    refine wpAnyH_take (i := 43) (oi := { dst := some 94, op := Op.unOp UnOp.not 4 (Operand.tmp 93), type := 4, pos := "law.go:114", after := #[{ on := 42, ground := Ground.data }, { on := 34, ground := Ground.guard }], guard := some (34, false) }) (v := ?_) rfl (by kernel_rfl) (by kernel_rfl) (by kernel_rfl) (fun _ _ _ h => h) (Or.inl ⟨by rfl, ?_⟩) (by assumption) ?_
                    rotate_left; · ((intro w hSw; (try dsimp only at hSw); go_simp); try with_reducible rfl)
                    try simp only [Act.put, List.setIfInBounds_toArray, List.set_cons_zero, List.set_cons_succ]
                    refine wpAnyH_take (i := 44) (oi := { dst := some 95, op := Op.pick (Operand.tmp 85) (Operand.const (Value.bool true)) (Operand.tmp 94), type := 4, pos := "law.go:114", after := #[{ on := 34, ground := Ground.data }, { on := 43, ground := Ground.data }], guard := none }) (v := ?_) rfl (by kernel_rfl) (by kernel_rfl) (by kernel_rfl) (fun _ _ _ h => h) (Or.inl ⟨by rfl, ?_⟩) (by assumption) ?_
                    rotate_left; · ((intro w hSw; (try dsimp only at hSw); go_simp); try with_reducible rfl)
                    try simp only [Act.put, List.setIfInBounds_toArray, List.set_cons_zero, List.set_cons_succ]
                    refine wpAnyH_done (by kernel_rfl) ?_ _
                    (go_wp2; go_roundw; (case rel => exact ⟨k + 1, by go_num, by omega, Lib.hid (HR.out ▸ h5.a), Lib.hid (HR.out ▸ h5.b), Lib.hid h5.kp⟩); (case measure => (simp [intOf]; omega)))
                  exact AllReadyH.nil
                exact AllReadyH.nil
              exact AllReadyH.nil
            exact AllReadyH.nil
          refine AllReadyH.cons rfl (fun K hK => ?_) ?_
          · go_simp
            refine hK.out _ _ ?_ (fun hHeld => ?_)
            · (try dsimp only); (first | exact h5.s | exact h4.s | exact h3.s | exact h2.s | exact h1.s | exact h0.s)
            clear hK K
            try simp only [Act.put, List.setIfInBounds_toArray, List.set_cons_zero, List.set_cons_succ]
            refine wpAnyH_ready (rs := [15]) (by kernel_rfl) (by simp) ?_
            refine AllReadyH.cons rfl (fun K hK => ?_) ?_
            · go_simp
              (refine (HST.out _ h2).mono ?_; rintro e w3' ⟨rfl, rfl⟩)
              refine hK.out _ _ ?_ (fun hHeld => ?_)
              · (try dsimp only); (first | exact h5.s | exact h4.s | exact h3.s | exact h2.s | exact h1.s | exact h0.s)
              clear hK K
              try simp only [Act.put, List.setIfInBounds_toArray, List.set_cons_zero, List.set_cons_succ]
              refine wpAnyH_take (i := 20) (oi := { dst := some 71, op := Op.binOp BinOp.neq 3 (Operand.tmp 66) (Operand.tmp 70) 3, type := 4, pos := "law.go:114", after := #[{ on := 15, ground := Ground.data }, { on := 19, ground := Ground.data }, { on := 13, ground := Ground.guard }], guard := some (13, false) }) (v := ?_) rfl (by kernel_rfl) (by kernel_rfl) (by kernel_rfl) (fun _ _ _ h => h) (Or.inl ⟨by rfl, ?_⟩) (by assumption) ?_
              rotate_left; · ((intro w hSw; (try dsimp only at hSw); go_simp); try with_reducible rfl)
              try simp only [Act.put, List.setIfInBounds_toArray, List.set_cons_zero, List.set_cons_succ]
              refine wpAnyH_take (i := 21) (oi := { dst := some 72, op := Op.pick (Operand.tmp 64) (Operand.const (Value.bool true)) (Operand.tmp 71), type := 4, pos := "law.go:114", after := #[{ on := 13, ground := Ground.data }, { on := 20, ground := Ground.data }], guard := none }) (v := ?_) rfl (by kernel_rfl) (by kernel_rfl) (by kernel_rfl) (fun _ _ _ h => h) (Or.inl ⟨by rfl, ?_⟩) (by assumption) ?_
              rotate_left; · ((intro w hSw; (try dsimp only at hSw); go_simp); try with_reducible rfl)
              try simp only [Act.put, List.setIfInBounds_toArray, List.set_cons_zero, List.set_cons_succ]
              refine wpAnyH_take (i := 22) (oi := { dst := some 73, op := Op.move (Operand.tmp 72), type := 4, pos := "law.go:114", after := #[{ on := 21, ground := Ground.data }, { on := 15, ground := Ground.chain }], guard := none }) (v := ?_) rfl (by kernel_rfl) (by kernel_rfl) (by kernel_rfl) (fun _ _ _ h => h) (Or.inl ⟨by rfl, ?_⟩) (by assumption) ?_
              rotate_left; · ((intro w hSw; (try dsimp only at hSw); go_simp); try with_reducible rfl)
              try simp only [Act.put, List.setIfInBounds_toArray, List.set_cons_zero, List.set_cons_succ]
              refine wpAnyH_take (i := 23) (oi := { dst := some 74, op := Op.move (Operand.tmp 6), type := 25, pos := "law.go:114", after := #[{ on := 22, ground := Ground.guard }], guard := some (22, false) }) (v := ?_) rfl (by kernel_rfl) (by kernel_rfl) (by kernel_rfl) (fun _ _ _ h => h) (Or.inl ⟨by rfl, ?_⟩) (by assumption) ?_
              rotate_left; · ((intro w hSw; (try dsimp only at hSw); go_simp); try with_reducible rfl)
              try simp only [Act.put, List.setIfInBounds_toArray, List.set_cons_zero, List.set_cons_succ]
              refine wpAnyH_take (i := 24) (oi := { dst := some 75, op := Op.move (Operand.tmp 8), type := 29, pos := "law.go:114", after := #[{ on := 22, ground := Ground.guard }], guard := some (22, false) }) (v := ?_) rfl (by kernel_rfl) (by kernel_rfl) (by kernel_rfl) (fun _ _ _ h => h) (Or.inl ⟨by rfl, ?_⟩) (by assumption) ?_
              rotate_left; · ((intro w hSw; (try dsimp only at hSw); go_simp); try with_reducible rfl)
              try simp only [Act.put, List.setIfInBounds_toArray, List.set_cons_zero, List.set_cons_succ]
              refine wpAnyH_ready (rs := [25]) (by kernel_rfl) (by simp) ?_
              refine AllReadyH.cons rfl (fun K hK => ?_) ?_
              · go_simp
                (refine (HSM.out _ _ h2).mono ?_; rintro e w4 ⟨rfl, hk4⟩; have h3 := h2.keep HAP.out hk4)
                refine hK.out _ _ ?_ (fun hHeld => ?_)
                · (try dsimp only); (first | exact h5.s | exact h4.s | exact h3.s | exact h2.s | exact h1.s | exact h0.s)
                clear hK K
                try simp only [Act.put, List.setIfInBounds_toArray, List.set_cons_zero, List.set_cons_succ]
                refine wpAnyH_take (i := 26) (oi := { dst := some 77, op := Op.unOp UnOp.not 4 (Operand.tmp 76), type := 4, pos := "law.go:114", after := #[{ on := 25, ground := Ground.data }, { on := 22, ground := Ground.guard }], guard := some (22, false) }) (v := ?_) rfl (by kernel_rfl) (by kernel_rfl) (by kernel_rfl) (fun _ _ _ h => h) (Or.inl ⟨by rfl, ?_⟩) (by assumption) ?_
                rotate_left; · ((intro w hSw; (try dsimp only at hSw); go_simp); try with_reducible rfl)
                try simp only [Act.put, List.setIfInBounds_toArray, List.set_cons_zero, List.set_cons_succ]
                refine wpAnyH_take (i := 27) (oi := { dst := some 78, op := Op.pick (Operand.tmp 73) (Operand.const (Value.bool true)) (Operand.tmp 77), type := 4, pos := "law.go:114", after := #[{ on := 22, ground := Ground.data }, { on := 26, ground := Ground.data }], guard := none }) (v := ?_) rfl (by kernel_rfl) (by kernel_rfl) (by kernel_rfl) (fun _ _ _ h => h) (Or.inl ⟨by rfl, ?_⟩) (by assumption) ?_
                rotate_left; · ((intro w hSw; (try dsimp only at hSw); go_simp); try with_reducible rfl)
                try simp only [Act.put, List.setIfInBounds_toArray, List.set_cons_zero, List.set_cons_succ]
                refine wpAnyH_take (i := 28) (oi := { dst := some 79, op := Op.move (Operand.tmp 78), type := 4, pos := "law.go:114", after := #[{ on := 27, ground := Ground.data }, { on := 25, ground := Ground.chain }], guard := none }) (v := ?_) rfl (by kernel_rfl) (by kernel_rfl) (by kernel_rfl) (fun _ _ _ h => h) (Or.inl ⟨by rfl, ?_⟩) (by assumption) ?_
                rotate_left; · ((intro w hSw; (try dsimp only at hSw); go_simp); try with_reducible rfl)
                try simp only [Act.put, List.setIfInBounds_toArray, List.set_cons_zero, List.set_cons_succ]
                refine wpAnyH_take (i := 29) (oi := { dst := some 80, op := Op.move (Operand.tmp 6), type := 25, pos := "law.go:114", after := #[{ on := 28, ground := Ground.guard }], guard := some (28, false) }) (v := ?_) rfl (by kernel_rfl) (by kernel_rfl) (by kernel_rfl) (fun _ _ _ h => h) (Or.inl ⟨by rfl, ?_⟩) (by assumption) ?_
                rotate_left; · ((intro w hSw; (try dsimp only at hSw); go_simp); try with_reducible rfl)
                try simp only [Act.put, List.setIfInBounds_toArray, List.set_cons_zero, List.set_cons_succ]
                refine wpAnyH_take (i := 30) (oi := { dst := some 81, op := Op.move (Operand.tmp 8), type := 29, pos := "law.go:114", after := #[{ on := 28, ground := Ground.guard }], guard := some (28, false) }) (v := ?_) rfl (by kernel_rfl) (by kernel_rfl) (by kernel_rfl) (fun _ _ _ h => h) (Or.inl ⟨by rfl, ?_⟩) (by assumption) ?_
                rotate_left; · ((intro w hSw; (try dsimp only at hSw); go_simp); try with_reducible rfl)
                try simp only [Act.put, List.setIfInBounds_toArray, List.set_cons_zero, List.set_cons_succ]
                refine wpAnyH_ready (rs := [31]) (by kernel_rfl) (by simp) ?_
                refine AllReadyH.cons rfl (fun K hK => ?_) ?_
                · go_simp
                  (refine (HSM.out _ _ h3).mono ?_; rintro e w5' ⟨rfl, hk5⟩; have h4 := h3.keep HAP.out hk5)
                  refine hK.out _ _ ?_ (fun hHeld => ?_)
                  · (try dsimp only); (first | exact h5.s | exact h4.s | exact h3.s | exact h2.s | exact h1.s | exact h0.s)
                  clear hK K
                  try simp only [Act.put, List.setIfInBounds_toArray, List.set_cons_zero, List.set_cons_succ]
                  refine wpAnyH_take (i := 32) (oi := { dst := some 83, op := Op.unOp UnOp.not 4 (Operand.tmp 82), type := 4, pos := "law.go:114", after := #[{ on := 31, ground := Ground.data }, { on := 28, ground := Ground.guard }], guard := some (28, false) }) (v := ?_) rfl (by kernel_rfl) (by kernel_rfl) (by kernel_rfl) (fun _ _ _ h => h) (Or.inl ⟨by rfl, ?_⟩) (by assumption) ?_
                  rotate_left; · ((intro w hSw; (try dsimp only at hSw); go_simp); try with_reducible rfl)
                  try simp only [Act.put, List.setIfInBounds_toArray, List.set_cons_zero, List.set_cons_succ]
                  refine wpAnyH_take (i := 33) (oi := { dst := some 84, op := Op.pick (Operand.tmp 79) (Operand.const (Value.bool true)) (Operand.tmp 83), type := 4, pos := "law.go:114", after := #[{ on := 28, ground := Ground.data }, { on := 32, ground := Ground.data }], guard := none }) (v := ?_) rfl (by kernel_rfl) (by kernel_rfl) (by kernel_rfl) (fun _ _ _ h => h) (Or.inl ⟨by rfl, ?_⟩) (by assumption) ?_
                  rotate_left; · ((intro w hSw; (try dsimp only at hSw); go_simp); try with_reducible rfl)
                  try simp only [Act.put, List.setIfInBounds_toArray, List.set_cons_zero, List.set_cons_succ]
                  refine wpAnyH_take (i := 34) (oi := { dst := some 85, op := Op.move (Operand.tmp 84), type := 4, pos := "law.go:114", after := #[{ on := 33, ground := Ground.data }, { on := 31, ground := Ground.chain }], guard := none }) (v := ?_) rfl (by kernel_rfl) (by kernel_rfl) (by kernel_rfl) (fun _ _ _ h => h) (Or.inl ⟨by rfl, ?_⟩) (by assumption) ?_
                  rotate_left; · ((intro w hSw; (try dsimp only at hSw); go_simp); try with_reducible rfl)
                  try simp only [Act.put, List.setIfInBounds_toArray, List.set_cons_zero, List.set_cons_succ]
                  refine wpAnyH_take (i := 35) (oi := { dst := some 86, op := Op.move (Operand.tmp 6), type := 25, pos := "law.go:114", after := #[{ on := 34, ground := Ground.guard }], guard := some (34, false) }) (v := ?_) rfl (by kernel_rfl) (by kernel_rfl) (by kernel_rfl) (fun _ _ _ h => h) (Or.inl ⟨by rfl, ?_⟩) (by assumption) ?_
                  rotate_left; · ((intro w hSw; (try dsimp only at hSw); go_simp); try with_reducible rfl)
                  try simp only [Act.put, List.setIfInBounds_toArray, List.set_cons_zero, List.set_cons_succ]
                  refine wpAnyH_take (i := 36) (oi := { dst := some 87, op := Op.move (Operand.tmp 8), type := 29, pos := "law.go:114", after := #[{ on := 34, ground := Ground.guard }], guard := some (34, false) }) (v := ?_) rfl (by kernel_rfl) (by kernel_rfl) (by kernel_rfl) (fun _ _ _ h => h) (Or.inl ⟨by rfl, ?_⟩) (by assumption) ?_
                  rotate_left; · ((intro w hSw; (try dsimp only at hSw); go_simp); try with_reducible rfl)
                  try simp only [Act.put, List.setIfInBounds_toArray, List.set_cons_zero, List.set_cons_succ]
                  refine wpAnyH_take (i := 37) (oi := { dst := some 88, op := Op.move (Operand.tmp 1), type := 22, pos := "law.go:114", after := #[{ on := 34, ground := Ground.guard }], guard := some (34, false) }) (v := ?_) rfl (by kernel_rfl) (by kernel_rfl) (by kernel_rfl) (fun _ _ _ h => h) (Or.inl ⟨by rfl, ?_⟩) (by assumption) ?_
                  rotate_left; · ((intro w hSw; (try dsimp only at hSw); go_simp); try with_reducible rfl)
                  try simp only [Act.put, List.setIfInBounds_toArray, List.set_cons_zero, List.set_cons_succ]
                  refine wpAnyH_take (i := 38) (oi := { dst := some 89, op := Op.move (Operand.tmp 10), type := 3, pos := "law.go:114", after := #[{ on := 34, ground := Ground.guard }], guard := some (34, false) }) (v := ?_) rfl (by kernel_rfl) (by kernel_rfl) (by kernel_rfl) (fun _ _ _ h => h) (Or.inl ⟨by rfl, ?_⟩) (by assumption) ?_
                  rotate_left; · ((intro w hSw; (try dsimp only at hSw); go_simp); try with_reducible rfl)
                  try simp only [Act.put, List.setIfInBounds_toArray, List.set_cons_zero, List.set_cons_succ]
                  refine wpAnyH_take (i := 39) (oi := { dst := some 90, op := Op.indexAddr 22 (Operand.tmp 88) (Operand.tmp 89), type := 0, pos := "law.go:114", after := #[{ on := 37, ground := Ground.data }, { on := 38, ground := Ground.data }, { on := 34, ground := Ground.guard }], guard := some (34, false) }) (v := ?_) rfl (by kernel_rfl) (by kernel_rfl) (by kernel_rfl) (fun _ _ _ h => h) (Or.inl ⟨by rfl, ?_⟩) (by assumption) ?_
                  rotate_left; · ((intro w hSw; (try dsimp only at hSw); go_simp); try with_reducible rfl)
                  try simp only [Act.put, List.setIfInBounds_toArray, List.set_cons_zero, List.set_cons_succ]
                  refine wpAnyH_take (i := 40) (oi := { dst := some 91, op := Op.fieldAddr 38 (Operand.tmp 90) 1, type := 0, pos := "law.go:114", after := #[{ on := 39, ground := Ground.data }, { on := 34, ground := Ground.guard }], guard := some (34, false) }) (v := ?_) rfl (by kernel_rfl) (by kernel_rfl) (by kernel_rfl) (fun _ _ _ h => h) (Or.inl ⟨by rfl, ?_⟩) (by assumption) ?_
                  rotate_left; · ((intro w hSw; (try dsimp only at hSw); go_simp); try with_reducible rfl)
                  try simp only [Act.put, List.setIfInBounds_toArray, List.set_cons_zero, List.set_cons_succ]
                  refine wpAnyH_take (i := 41) (oi := { dst := some 92, op := Op.load 3 (Operand.tmp 91), type := 3, pos := "law.go:114", after := #[{ on := 40, ground := Ground.data }, { on := 34, ground := Ground.guard }], guard := some (34, false) }) (v := ?_) rfl (by kernel_rfl) (by kernel_rfl) (by kernel_rfl) (fun _ _ _ h => h) (Or.inl ⟨by rfl, ?_⟩) (by assumption) ?_
                  rotate_left; · ((intro w hSw; (try dsimp only at hSw); go_simp); try with_reducible rfl)
                  try simp only [Act.put, List.setIfInBounds_toArray, List.set_cons_zero, List.set_cons_succ]
                  refine wpAnyH_ready (rs := [42]) (by kernel_rfl) (by simp) ?_
                  refine AllReadyH.cons rfl (fun K hK => ?_) ?_
                  · go_simp
                    (refine (HSM.out _ _ h4).mono ?_; rintro e w6' ⟨rfl, hk6⟩; have h5 := h4.keep HAP.out hk6)
                    refine hK.out _ _ ?_ (fun hHeld => ?_)
                    · (try dsimp only); (first | exact h5.s | exact h4.s | exact h3.s | exact h2.s | exact h1.s | exact h0.s)
                    clear hK K
                    try simp only [Act.put, List.setIfInBounds_toArray, List.set_cons_zero, List.set_cons_succ]
                    refine wpAnyH_take (i := 43) (oi := { dst := some 94, op := Op.unOp UnOp.not 4 (Operand.tmp 93), type := 4, pos := "law.go:114", after := #[{ on := 42, ground := Ground.data }, { on := 34, ground := Ground.guard }], guard := some (34, false) }) (v := ?_) rfl (by kernel_rfl) (by kernel_rfl) (by kernel_rfl) (fun _ _ _ h => h) (Or.inl ⟨by rfl, ?_⟩) (by assumption) ?_
                    rotate_left; · ((intro w hSw; (try dsimp only at hSw); go_simp); try with_reducible rfl)
                    try simp only [Act.put, List.setIfInBounds_toArray, List.set_cons_zero, List.set_cons_succ]
                    refine wpAnyH_take (i := 44) (oi := { dst := some 95, op := Op.pick (Operand.tmp 85) (Operand.const (Value.bool true)) (Operand.tmp 94), type := 4, pos := "law.go:114", after := #[{ on := 34, ground := Ground.data }, { on := 43, ground := Ground.data }], guard := none }) (v := ?_) rfl (by kernel_rfl) (by kernel_rfl) (by kernel_rfl) (fun _ _ _ h => h) (Or.inl ⟨by rfl, ?_⟩) (by assumption) ?_
                    rotate_left; · ((intro w hSw; (try dsimp only at hSw); go_simp); try with_reducible rfl)
                    try simp only [Act.put, List.setIfInBounds_toArray, List.set_cons_zero, List.set_cons_succ]
                    refine wpAnyH_done (by kernel_rfl) ?_ _
                    (go_wp2; go_roundw; (case rel => exact ⟨k + 1, by go_num, by omega, Lib.hid (HR.out ▸ h5.a), Lib.hid (HR.out ▸ h5.b), Lib.hid h5.kp⟩); (case measure => (simp [intOf]; omega)))
                  exact AllReadyH.nil
                exact AllReadyH.nil
              exact AllReadyH.nil
            exact AllReadyH.nil
          exact AllReadyH.nil
        exact AllReadyH.nil
      exact AllReadyH.nil
    · obtain rfl : k = ys.length := by omega
      have hge : ¬ (ys.length : Int) < (ys.length : Int) := by omega
      go_wp2
      go_ret
      exact ⟨rfl, HK4.out.trans' HK.out (fun i hi => .inr (HLT.out i hi))⟩

theorem playslaw_any (n : Int) (a : Option Addr) (xs : List Op1) (c : Nat) (w : World) (hx : OpsArg w a xs) (hE : Et w) :
    Calls Tryz.prog 3 #[.int .i64 n, .slice a xs.length c] w fun e w' => e = .returned (.bool true) ∧ Keeps [] w w' := by
  by_cases hn : n < 1 ∨ 4096 < n
  · exact plays_bad n hn a xs c w hx hE
  · obtain ⟨cap, rfl⟩ : ∃ cap : Nat, n = cap := ⟨n.toNat, by omega⟩
    exact plays_ok cap (by omega) (by omega) a xs c w hx hE
end Go.Proofs.YtollcbacpoohlaaGreatDoor
