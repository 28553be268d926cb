/- The walk of TimerPlays: the timer and the document's, call for call. -/
import Derived.Test.YtkkajcakgihckaaTimRO
import Derived.Deep.Fields
import Derived.Laws.StructEq
namespace Go.Proofs.Ytkkajcakgihckaa
open Go.RowKit Go.Shelf
attribute [local go_sem] Oper.semAt_some
attribute [local go_sem ↓] Go.wp_at_zero Go.wp_at_succ

theorem said10_guardType : Try.prog.eqGuardType Try.prog.depth 31 = false := by kernel_rfl
theorem said10_under : Try.prog.underlying 31 = some (.struct (Try.prog.fieldsOf 31)) := by kernel_rfl
theorem said10_stood : Try.prog.stoodInHeld 31 = false := by kernel_rfl
theorem said10_eqIn (k r : Int) (s : Bool) (w : World) : (Op.equalIn 10000 31 (.agg #[.int .i64 k, .bool s, .int .i64 r]) (.agg #[.int .i64 k, .bool s, .int .i64 r])).run Try.prog w = .ok true w := by
  rw [show (10000 : Nat) = 9999 + 1 from rfl, run_equalIn_agg w 9999 31 _ _ said10_under said10_stood]
  simp [Program.fieldsOf, Try.underlying31, Op.eqFields, go_sem, Try.underlying3, Try.underlying4, Try.underlying29]
theorem said10_neq (k r : Int) (s : Bool) (w : World) : (binOp .neq 31 (.agg #[.int .i64 k, .bool s, .int .i64 r]) (.agg #[.int .i64 k, .bool s, .int .i64 r])).run Try.prog w = .ok (.bool false) w := by
  rw [run_neq_struct, show (Op.equalIn 10000 31 (.agg #[.int .i64 k, .bool s, .int .i64 r]) (.agg #[.int .i64 k, .bool s, .int .i64 r])).run Try.prog w = .ok true w from said10_eqIn k r s w]
  rfl
theorem said10_guard (op : BinOp) (x y : Operand) (xs ys : Array Value) (w : World) : (eqGuard op 31 x y (.agg xs) (.agg ys)).run Try.prog w = .ok () w := run_eqGuard_agg w op 31 x y xs ys said10_guardType

/-- Both timers in memory: the program's in F, the document's in m and g. -/
structure TwoT (w0 w : World) (F : List Nat) (t n : Nat) (L : List Ke) (m g : Nat) (v : Value) (L2 : List Ke) : Prop where
  own : OwnF w0 w F t n L
  rt : RtA w m g v L2
  ml : w0.heap.size ≤ m
  gl : g < w.heap.size
  mF : m ∉ F
  gF : g ∉ F
section
variable {w0 w w' : World} {F : List Nat} {t n : Nat} {L : List Ke} {m g : Nat} {v : Value} {L2 : List Ke}
theorem TwoT.keeps (h : TwoT w0 w F t n L m g v L2) (hk : Keeps [] w w') : TwoT w0 w' F t n L m g v L2 :=
  ⟨h.own.keeps hk, h.rt.keeps hk (by simp) (by simp), h.ml, Nat.lt_of_lt_of_le h.gl hk.size, h.mF, h.gF⟩
theorem TwoT.do_ (h : TwoT w0 w F t n L m g v L2) (x : Op1) (hx : x.wf) (hn : n < 900) : Calls Try.prog 13 #[.pointer (some ⟨t, 0, none⟩), x.val] w fun e w' => (∃ u, e = .returned (.tuple #[saidV (doL L x).1, u]) ∧ NewI w' w.heap.size u (doL L x).1.2.2.2) ∧ m < w.heap.size ∧ ∃ F', TwoT w0 w' F' t (n + 1) (doL L x).2 m g v L2 := by
  refine (do_any F t n L x hx hn w h.own.ti h.own.hi).mono ?_
  rintro e w' ⟨h1, F', h2, h3, h4, h5⟩
  have hs := h.own.k.size
  have hml := h.rt.head.lt
  have hgl := h.gl
  refine ⟨h1, hml, F', ⟨h2, fun y hy => ?_, h3, h.own.k.trans' h5 (fun y hy => .inr (h.own.lo y hy))⟩, h.rt.keeps h5 h.mF h.gF, h.ml, Nat.lt_of_lt_of_le h.gl h5.size, fun hm => ?_, fun hm => ?_⟩
  · rcases h4 y hy with h6 | h6
    · exact h.own.lo y h6
    · omega
  · rcases h4 m hm with h6 | h6
    · exact h.mF h6
    · omega
  · rcases h4 g hm with h6 | h6
    · exact h.gF h6
    · omega
theorem TwoT.want_ (h : TwoT w0 w F t n L m g v L2) (hg : TiGood L2) (x : Op1) : Calls Try.prog 14 #[.pointer (some ⟨m, 0, none⟩), x.val] w fun e w' => (∃ u, e = .returned (.tuple #[saidV (doL L2 x).1, u]) ∧ NewI w' w.heap.size u (doL L2 x).1.2.2.2) ∧ (∃ g' v', TwoT w0 w' F t n L m g' v' (doL L2 x).2) ∧ Keeps [m] w w' := by
  refine (want_any m g v L2 x hg w h.rt h.gl).mono ?_
  rintro e w' ⟨h1, u, g', h2, h3, h4, h5⟩
  have hmF : ∀ y ∈ F, y ∉ [m] := fun y hy hm => by
    simp only [List.mem_singleton] at hm; subst hm; exact h.mF hy
  refine ⟨h1, ⟨g', u, ⟨h.own.ti.keeps h5 hmF, h.own.lo, fun y hy => Nat.lt_of_lt_of_le (h.own.hi y hy) h5.size, h.own.k.trans' h5 (fun y hy => .inr ?_)⟩, h2, h.ml, h4, h.mF, fun hm => ?_⟩, h5⟩
  · simp only [List.mem_singleton] at hy; subst hy; exact h.ml
  · rcases h3 with h6 | h6 | h6
    · subst h6; exact h.gF hm
    · subst h6; exact h.mF hm
    · have := h.own.hi g' hm; omega
end
theorem do_len {L : List Ke} (h : L.length ≤ 64) (x : Op1) : (doL L x).1.2.2.2.length ≤ 1000000 := by
  have := due_len h x.b
  unfold doL
  repeat' split
  all_goals simp only [List.length_nil]
  all_goals omega
theorem keys_len {L : List Ke} (h : L.length ≤ 64) : (keysL L).length ≤ 1000000 := by
  unfold keysL
  rw [List.length_map]; omega

set_option maxRecDepth 100000 in
set_option maxHeartbeats 8000000 in
theorem TimerPlays_any (a : Option Addr) (xs : List Op1) (c : Nat) (w : World) (hx : OpsArg w a xs c) :
    Calls Try.prog 3 #[.slice a xs.length c] w fun e w' => e = .returned (.bool true) ∧ Keeps [] w w' := by
  have HX := Lib.hid (hx.take 90)
  have hm90 : (xs.take 90).length ≤ 90 := by rw [List.length_take]; omega
  have hSh := shown_any w
  have hF := fun W hW => few_any a xs c W (hx.keeps hW)
  obtain ⟨N, hN⟩ : ∃ N, xs.length = N := ⟨_, rfl⟩
  rw [hN] at hF
  obtain ⟨ops, hops⟩ : ∃ ops, xs.take 90 = ops := ⟨_, rfl⟩
  rw [hops] at HX hm90 hF
  obtain ⟨M, hM⟩ : ∃ M, ops.length = M := ⟨_, rfl⟩
  rw [hM] at hm90 hF
  have HM := Lib.hid hM
  have HF := Lib.hid hF
  rw [hN]
  clear hx hN hops hM hF
  go_enter Try.func3, Try.ntmps3
  go_wp2_with (go_at_call 9; refine hSh.mono ?_; rintro e w1 ⟨rfl, k1⟩; clear hSh; have hF := HF.out w1 k1; have hNw := own_new w w1 k1; clear k1)
  go_wp2_with (first
    | (go_at_call 10; refine hF.mono ?_; rintro e w2 ⟨rfl, rfl⟩; clear hF)
    | (go_at_call 11; refine hNw.mono ?_; rintro e w3 ⟨rfl, o3⟩; clear hNw; have O3 := Lib.hid o3; clear o3; have hNr := rTnew_any w3)
    | (go_at_call 12; refine hNr.mono ?_; rintro e w4 ⟨rfl, r4, k4⟩; clear hNr; have R4 := Lib.hid r4; have K4 := Lib.hid k4; clear r4 k4))
  obtain ⟨t, ht⟩ : ∃ t, w1.heap.size + 1 = t := ⟨_, rfl⟩
  rw [ht] at O3 ⊢
  clear ht
  have H4 : Hid (TwoT w w4 [w1.heap.size, t] t 0 [] w3.heap.size w3.heap.size (.slice none 0 0) []) := Lib.hid ⟨O3.out.keeps K4.out, R4.out, O3.out.k.size, R4.out.head.lt, fun hm => Nat.lt_irrefl _ (O3.out.hi _ hm), fun hm => Nat.lt_irrefl _ (O3.out.hi _ hm)⟩
  obtain ⟨m, hm⟩ : ∃ m, w3.heap.size = m := ⟨_, rfl⟩
  rw [hm] at H4 ⊢
  clear hm R4 K4
  go_loopw [6] (fun i wr => ∃ (k : Nat) (F : List Nat) (g : Nat) (v : Value), k ≤ M ∧ i = .int .i64 k ∧ Hid (TwoT w wr F t k (runL (ops.take k)) m g v (runL (ops.take k)))) (fun i _ => M - (intOf i).toNat)
  case atStart => exact ⟨0, _, _, _, Nat.zero_le _, rfl, H4⟩
  case round =>
    obtain ⟨k, F, g, v, hk, rfl, HO⟩ := hrel
    by_cases hlt : k < M
    · have hk1 : k < ops.length := by rw [HM.out]; exact hlt
      obtain ⟨b, off, rfl, hb, hat⟩ := HX.out.2.2 (by omega)
      obtain ⟨x, hxk⟩ : ∃ x, ops[k] = x := ⟨_, rfl⟩
      have hcells : ∀ W, Keeps [] w W → W.cell? ⟨b, off + k * 3, none⟩ = some (.int .i64 x.kind) ∧ W.cell? ⟨b, off + k * 3 + 1, none⟩ = some (.int .i64 x.a) ∧ W.cell? ⟨b, off + k * 3 + 2, none⟩ = some (.int .i64 x.b) := fun W hW => by
        obtain ⟨h1, h2, h3⟩ := hat k hk1
        rw [hxk] at h1 h2 h3
        exact ⟨(hW.cell (p := ⟨b, off + k * 3, none⟩) hb (by simp)).trans h1, (hW.cell (p := ⟨b, off + k * 3 + 1, none⟩) hb (by simp)).trans h2, (hW.cell (p := ⟨b, off + k * 3 + 2, none⟩) hb (by simp)).trans h3⟩
      have HCE := Lib.hid hcells
      have hwf : x.wf := HX.out.1 x (by rw [← hxk]; exact List.getElem_mem _)
      obtain ⟨h1, h2, h3⟩ := hcells wr HO.out.own.k
      have i1 : (0 : Int) ≤ (k : Int) := by omega
      have i2 : (k : Int) < (M : Int) := by omega
      have hrun : runL (ops.take (k + 1)) = (doL (runL (ops.take k)) x).2 := by rw [runL_snoc hk1, hxk]
      have hgood := HO.out.own.good
      obtain ⟨L, hL⟩ : ∃ L, runL (ops.take k) = L := ⟨_, rfl⟩
      rw [hL] at HO hrun hgood
      have hdl := do_len hgood.le x
      have hD := HO.out.do_ x hwf (by omega)
      obtain ⟨⟨er, is, nn, ys⟩, hr⟩ : ∃ r, (doL L x).1 = r := ⟨_, rfl⟩
      obtain ⟨L', hL'⟩ : ∃ L', (doL L x).2 = L' := ⟨_, rfl⟩
      rw [hr, hL'] at hD
      rw [hr] at hdl
      rw [hL'] at hrun
      have hW := fun (W : World) F n g v (hT : TwoT w W F t n L' m g v L) => hT.want_ hgood x
      rw [hr, hL'] at hW
      have HW := Lib.hid hW
      have HRUN := Lib.hid hrun
      have HDL := Lib.hid hdl
      have hgu := said10_guard
      have hne := said10_neq er nn is
      unfold Op1.val at hD
      unfold saidV at hD
      clear hat hxk hwf hrun hk1 hb hcells hgood hr hL' hW hdl
      dsimp only at hD
      go_wp2_with (go_at_call 13; refine hD.mono ?_; rintro e w5 ⟨⟨v5, rfl, hv5⟩, hm5, F5, o5⟩; clear hD; have V5 := Lib.hid hv5; have O5 := Lib.hid o5; have M5 := Lib.hid hm5; obtain ⟨h1, h2, h3⟩ := HCE.out w5 o5.own.k; have ck1 : ∀ o, (w5.alloc o).cell? ⟨b, off + k * 3, none⟩ = some (.int .i64 x.kind) := fun o => cell_alloc_old h1 o; have ck2 : ∀ o, (w5.alloc o).cell? ⟨b, off + k * 3 + 1, none⟩ = some (.int .i64 x.a) := fun o => cell_alloc_old h2 o; have ck3 : ∀ o, (w5.alloc o).cell? ⟨b, off + k * 3 + 2, none⟩ = some (.int .i64 x.b) := fun o => cell_alloc_old h3 o; clear hv5 o5 hm5)
      have K6 := (Keeps.refl [] w5).alloc (.cells #[.int .i64 er, .bool is, .int .i64 nn] 31)
      have O6 := Lib.hid (O5.out.keeps K6)
      have V6 := Lib.hid (V5.out.keeps K6 (by simp))
      have B6 := Lib.hid (Blk.new w5 31 #[.int .i64 er, .bool is, .int .i64 nn])
      have M6 : Hid (m < w5.heap.size) := Lib.hid O5.out.rt.head.lt
      clear h1 h2 h3 ck1 ck2 ck3 K6
      obtain ⟨w6, hw6⟩ : ∃ w6, w5.alloc (.cells #[.int .i64 er, .bool is, .int .i64 nn] 31) = w6 := ⟨_, rfl⟩
      rw [hw6] at O6 V6 B6 ⊢
      clear hw6
      refine (HW.out w6 F5 (k + 1) g v O6.out).mono ?_
      rintro e w7 ⟨⟨v7, rfl, hv7⟩, ⟨g7, y7, o7⟩, k7⟩
      have hmw : ∀ y ∈ [m], y < wr.heap.size := fun y hy => by
        simp only [List.mem_singleton] at hy; subst hy; exact M5.out
      have V7 := Lib.hid (V6.out.keeps k7 hmw)
      have U7 := Lib.hid hv7
      have O7 := Lib.hid o7
      have B7 := Lib.hid (B6.out.keeps k7 (fun hm => by
        simp only [List.mem_singleton] at hm; have := M6.out; omega))
      have E7 : Hid (w6.heap.size ≤ w7.heap.size) := Lib.hid k7.size
      clear hv7 o7 k7 hmw
      unfold saidV
      go_wp2_with (fail)
      have K8 := (Keeps.refl [] w7).alloc (.cells #[.int .i64 er, .bool is, .int .i64 nn] 31)
      have O8 := Lib.hid (O7.out.keeps K8)
      have V8 := Lib.hid (V7.out.keeps K8 (by simp))
      have U8 := Lib.hid (U7.out.keeps K8 (by simp))
      have B8 := Lib.hid (B7.out.keeps K8 (by simp))
      have C8 := Lib.hid (Blk.new w7 31 #[.int .i64 er, .bool is, .int .i64 nn])
      clear K8
      obtain ⟨w8, hw8⟩ : ∃ w8, w7.alloc (.cells #[.int .i64 er, .bool is, .int .i64 nn] 31) = w8 := ⟨_, rfl⟩
      rw [hw8] at O8 V8 U8 B8 C8 ⊢
      clear hw8
      obtain ⟨⟨nk, na, nb⟩, hnx⟩ : ∃ r, nextL L' = r := ⟨_, rfl⟩
      have HNX := Lib.hid hnx
      clear hnx
      refine (own_next O8.out.own _ HNX.out).mono ?_
      rintro e w9 ⟨rfl, _, k9⟩
      have K9 := Lib.hid k9
      clear k9
      go_wp2_with (fail)
      refine (rTnext_any m g7 y7 L' _ HNX.out w9 (O8.out.keeps K9.out).rt).mono ?_
      rintro e w10 ⟨rfl, k10⟩
      have K10 := Lib.hid (K9.out.trans k10)
      have c0 := (B8.out.keeps K10.out (by simp)).cell 0
      have c1 := (B8.out.keeps K10.out (by simp)).cell 1
      have c2 := (B8.out.keeps K10.out (by simp)).cell 2
      have e0 := (C8.out.keeps K10.out (by simp)).cell 0
      have e1 := (C8.out.keeps K10.out (by simp)).cell 1
      have e2 := (C8.out.keeps K10.out (by simp)).cell 2
      simp at c0 c1 c2 e0 e1 e2
      clear k10 K9
      go_wp2_with (fail)
      clear c0 c1 c2 e0 e1 e2
      refine (rInts_any v5 v7 ys ys true (by simp) HDL.out w10 (V8.out.keeps K10.out (by simp)).ints (U8.out.keeps K10.out (by simp)).ints).mono ?_
      rintro e w11 ⟨rfl, k11⟩
      have K11 := Lib.hid (K10.out.trans k11)
      have nk1 : (nk != nk) = false := by simp
      have na1 : (na != na) = false := by simp
      have nb1 : (nb != nb) = false := by simp
      clear k11 K10
      go_wp2_with (fail)
      obtain ⟨ks, hks⟩ : ∃ ks, keysL L' = ks := ⟨_, rfl⟩
      have hkl := keys_len O8.out.own.good.le
      rw [hks] at hkl
      have HKL := Lib.hid hkl
      have HKS := Lib.hid hks
      clear hks hkl
      have O11 := Lib.hid (O8.out.keeps K11.out)
      refine (own_keys O11.out.own ks HKS.out).mono ?_
      rintro e w12 ⟨⟨v12, rfl, hv12⟩, _, k12⟩
      have V12 := Lib.hid hv12
      have O12 := Lib.hid (O11.out.keeps k12)
      clear hv12 k12
      go_wp2_with (fail)
      refine (rTkeys_any m g7 y7 L' ks HKS.out w12 O12.out.rt).mono ?_
      rintro e w13 ⟨⟨v13, rfl, hv13⟩, k13⟩
      have V13 := Lib.hid hv13
      have W13 := Lib.hid (V12.out.keeps k13 (by simp))
      have O13 := Lib.hid (O12.out.keeps k13)
      clear hv13 k13
      go_wp2_with (fail)
      refine (rInts_any v12 v13 ks ks true (by simp) HKL.out w13 W13.out.ints V13.out.ints).mono ?_
      rintro e w14 ⟨rfl, k14⟩
      have O14 := Lib.hid (O13.out.keeps k14)
      clear k14
      go_wp2
      go_roundw
      case rel => exact ⟨k + 1, F5, g7, y7, by omega, by go_num, by rw [HRUN.out]; exact O14⟩
      case measure => simp [intOf]; omega
    · obtain rfl : k = M := by omega
      go_wp2
      go_ret
      exact ⟨rfl, HO.out.own.k⟩
end Go.Proofs.Ytkkajcakgihckaa
