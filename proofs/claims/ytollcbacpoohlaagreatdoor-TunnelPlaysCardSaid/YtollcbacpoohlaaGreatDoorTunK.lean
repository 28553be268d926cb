/- The walks of a tunnel's each and clear. -/
import Derived.Test.YtollcbacpoohlaaGreatDoorTunH
import Derived.Test.YtollcbacpoohlaaGreatDoorIterD
import Derived.IntWalk
namespace Go.Proofs.YtollcbacpoohlaaGreatDoor
open Go.RowKit Go.Shelf
attribute [local go_sem] Oper.semAt_some
attribute [local go_sem ↓] Go.wp_at_zero Go.wp_at_succ

def wayS (x : WL) : Array Value := #[.pointer (some ⟨x.b, 0, none⟩)]

set_option maxRecDepth 100000 in
set_option maxHeartbeats 1000000 in
theorem each1_in (n l pb b : Nat) (x y : WL) (J Jx : List WL → World → Prop) (W : World)
    (hY : ∀ pre z W1, J pre W1 → pre ++ [z] <+: [x, y] → YieldAt Fence.wide (n - 1) Tryz.prog l (wayS z) W1 fun e W' =>
      (e = .returned (.bool true) ∧ J (pre ++ [z]) W' ∧ FarK W.heap.size W1 W') ∨ (e = .returned (.bool false) ∧ Jx (pre ++ [z]) W'))
    (hF : W.cell? ⟨pb, 0, none⟩ = some (.pointer (some ⟨b, 0, none⟩))) (hx : W.cell? ⟨b, 1, none⟩ = some (.pointer (some ⟨x.b, 0, none⟩))) (hy : W.cell? ⟨b, 2, none⟩ = some (.pointer (some ⟨y.b, 0, none⟩))) (h0 : J [] W) :
    CallsIn Fence.wide n Tryz.prog 74 #[.func (.yield l) #[] #[], .pointer (some ⟨pb, 0, none⟩)] W fun e W' => (∃ v, e = .returned v) ∧
      (J [x, y] W' ∨ (∃ pre, pre <+: [x, y] ∧ Jx pre W')) := by
  have HY := Lib.hid hY
  have HJ0 := Lib.hid h0
  clear hY h0
  have hn1 : Fence.wide.depth.isSome = true → 1 ≤ n := by intro h; cases h
  have i0 : ∀ (p q : Value) (w : World), (Instr.index 55 (.agg #[p, q]) (.int .i64 0)).run Tryz.prog w = .ok p w := fun _ _ _ => by kernel_rfl
  have i1 : ∀ (p q : Value) (w : World), (Instr.index 55 (.agg #[p, q]) (.int .i64 1)).run Tryz.prog w = .ok q w := fun _ _ _ => by kernel_rfl
  refine callsIn_of_wp Tryz.func74 rfl trivial ?_ rfl
  simp only [Tryz.ntmps74, List.size_toArray, List.length_cons, List.length_nil, Nat.reduceAdd, Nat.reduceSub, Array.replicate_succ, Array.replicate_zero, List.push_toArray, List.append_toArray, List.nil_append, List.cons_append]
  gi_wp2
  refine wpIn_scope_wide (wpIn_seq (wpIn_label ?_))
  gi_wp2
  gi_loopw [9] (fun i wr => ∃ k : Nat, i = .int .i64 k ∧ k ≤ 2 ∧ Hid (J ([x, y].take k) wr)) (fun i _ => 2 - (intOf i).toNat)
  case atStart => exact ⟨0, rfl, Nat.zero_le _, HJ0⟩
  case round =>
    obtain ⟨k, rfl, hk, HJs⟩ := hrel
    obtain rfl | rfl | rfl : k = 0 ∨ k = 1 ∨ k = 2 := by omega
    · have hy0 := yield_one (HY.out _ x _ HJs.out ⟨[y], rfl⟩)
      obtain ⟨fn, tmps, assign, body, hy1, hR⟩ := hy0
      simp only [wayS] at hy1
      gi_wp2
      refine ⟨hn1, ?_⟩
      refine hR.mono ?_
      rintro e W3 ⟨g, rfl, hT, hF⟩
      clear hR hy1
      cases g with
      | false =>
        have hJx := Lib.hid (hF.out rfl)
        clear hT hF
        gi_wp2
        try rw [Exit.noGoto_normal]
        go_end0
        exact ⟨⟨_, rfl⟩, .inr ⟨[x], ⟨[y], rfl⟩, hJx.out⟩⟩
      | true =>
        obtain ⟨hJ3, hK3⟩ := hT.out rfl
        have HJ3 := Lib.hid hJ3
        clear hT hF hJ3 hK3
        gi_wp2
        go_roundw
        case rel => exact ⟨1, rfl, by omega, HJ3⟩
        case measure => simp [intOf]
    · have hy0 := yield_one (HY.out _ y _ HJs.out (List.prefix_refl _))
      obtain ⟨fn, tmps, assign, body, hy1, hR⟩ := hy0
      simp only [wayS] at hy1
      gi_wp2
      refine ⟨hn1, ?_⟩
      refine hR.mono ?_
      rintro e W3 ⟨g, rfl, hT, hF⟩
      clear hR hy1
      cases g with
      | false =>
        have hJx := Lib.hid (hF.out rfl)
        clear hT hF
        gi_wp2
        try rw [Exit.noGoto_normal]
        go_end0
        exact ⟨⟨_, rfl⟩, .inr ⟨[x, y], List.prefix_refl _, hJx.out⟩⟩
      | true =>
        obtain ⟨hJ3, hK3⟩ := hT.out rfl
        have HJ3 := Lib.hid hJ3
        clear hT hF hJ3 hK3
        gi_wp2
        go_roundw
        case rel => exact ⟨2, rfl, by omega, HJ3⟩
        case measure => simp [intOf]
    · gi_wp2
      try rw [Exit.noGoto_normal]
      go_end0
      exact ⟨⟨_, rfl⟩, .inl HJs.out⟩

theorem each_seq (n pb b : Nat) (x y : WL) (w : World) (hF : w.cell? ⟨pb, 0, none⟩ = some (.pointer (some ⟨b, 0, none⟩))) (hx : w.cell? ⟨b, 1, none⟩ = some (.pointer (some ⟨x.b, 0, none⟩))) (hy : w.cell? ⟨b, 2, none⟩ = some (.pointer (some ⟨y.b, 0, none⟩))) :
    SeqD Fence.wide n Tryz.prog 74 #[.pointer (some ⟨pb, 0, none⟩)] wayS [x, y] w := fun l J Jx W hW _ _ hY h0 =>
  each1_in n l pb b x y J Jx W hY ((World.cell?_of_block (a := ⟨pb, 0, none⟩) (hW.block pb (World.block_lt_of_cell? w _ hF))).trans hF)
    ((World.cell?_of_block (a := ⟨b, 1, none⟩) (hW.block b (World.block_lt_of_cell? w _ hx))).trans hx) ((World.cell?_of_block (a := ⟨b, 2, none⟩) (hW.block b (World.block_lt_of_cell? w _ hy))).trans hy) h0

theorem each_any (b : Nat) (w : World) :
    Calls Tryz.prog 47 #[.pointer (some ⟨b, 0, none⟩)] w fun e w' => e = .returned (.func (.func 74) #[] #[.pointer (some ⟨w.heap.size, 0, none⟩)]) ∧ w.alloc (.cells #[.pointer (some ⟨b, 0, none⟩)] 25) = w' := by
  go_enter Tryz.func47, Tryz.ntmps47
  go_wp2
  go_ret
  exact ⟨rfl, rfl⟩

theorem WyAt.same {A A' : World} {L : WL} {cap : Nat} {y : Wy} (h : WyAt A L cap y) (hs : ∀ k ∈ L.l, A'.heap[k]? = A.heap[k]?) : WyAt A' L cap y := by
  obtain ⟨f1, A1, h1⟩ := h.fi
  obtain ⟨f2, A2, h2⟩ := h.fo
  exact ⟨(hs _ (by simp [WL.l])).trans h.head, ⟨f1, A1, (hs _ (by simp [WL.l])).trans h1.head, (hs _ (by simp [WL.l])).trans h1.ring, h1.size, h1.pos, h1.le, h1.from_, h1.len, h1.holds⟩,
    ⟨f2, A2, (hs _ (by simp [WL.l])).trans h2.head, (hs _ (by simp [WL.l])).trans h2.ring, h2.size, h2.pos, h2.le, h2.from_, h2.len, h2.holds⟩, h.nd, h.ok⟩
theorem Keeps.low {S : List Nat} {w A A' : World} {B : Nat} (h : Keeps S w A) (hB : w.heap.size ≤ B) (hb : Below B A A') : Keeps S w A' :=
  ⟨hb.os.trans h.os, hb.tape.trans h.tape, hb.output.trans h.output, Nat.le_trans h.size hb.size, fun k hk hn => (hb.block k (by omega)).trans (h.block k hk hn)⟩

/-- What holds behind some rounds of clear: fb holds the function, nb the sum. -/
structure ClrI (L : TL) (cap : Nat) (t : Tu) (fb nb : Nat) (w0 : World) (pre : List WL) (A : World) : Prop where
  f : Blk A fb 93 #[.func (.func 46) #[] #[]]
  n : Blk A nb 3 #[.int .i64 ((if 1 ≤ pre.length then t.a.i.length else 0) + (if 2 ≤ pre.length then t.b.i.length else 0) : Nat)]
  a : WyAt A L.x cap (if 1 ≤ pre.length then t.a.clr else t.a)
  b : WyAt A L.y cap (if 2 ≤ pre.length then t.b.clr else t.b)
  k : Keeps (L.x.l ++ L.y.l) w0 A

theorem ClrI.low {L : TL} {cap : Nat} {t : Tu} {fb nb B : Nat} {w0 A A' : World} {pre : List WL} (h : ClrI L cap t fb nb w0 pre A) (hB : w0.heap.size ≤ B) (hf : fb < B) (hn : nb < B) (hl : ∀ k ∈ L.l, k < w0.heap.size) (hb : Below B A A') : ClrI L cap t fb nb w0 pre A' :=
  ⟨(hb.block _ hf).trans h.f, (hb.block _ hn).trans h.n, h.a.same (fun k hk => hb.block k (by have := hl k (L.sub.1 k hk); omega)), h.b.same (fun k hk => hb.block k (by have := hl k (L.sub.2.1 k hk); omega)), h.k.low hB hb⟩

/-- A way's clear, in a round. -/
theorem yclear_in (L : WL) (cap : Nat) (y : Wy) (n : Nat) (hn : y.i.length = n) (hcl : WyOk cap y.clr) (fb nb : Nat) (v u : Value) (hfb : fb ∉ L.l) (hnb : nb ∉ L.l) (w : World) (h : WyAt w L cap y) (hf : Blk w fb 93 #[v]) (hu : Blk w nb 3 #[u]) :
    Calls Tryz.prog 46 #[.pointer (some ⟨L.b, 0, none⟩)] w fun e w' => e = .returned (.int .i64 n) ∧ (WyAt w' L cap y.clr ∧ Keeps L.l w w' ∧ Blk w' fb 93 #[v] ∧ Blk w' nb 3 #[u]) ∧ w'.cell? ⟨nb, 0, none⟩ = some u ∧ w'.cell? ⟨fb, 0, none⟩ = some v ∧ w'.frozen? ⟨nb, 0, none⟩ = false :=
  (yclear_any L cap y n hn hcl w h).mono fun _ _ ⟨h1, h2, h3⟩ => ⟨h1, ⟨h2, h3, hf.keeps h3 hfb, hu.keeps h3 hnb⟩, (hu.keeps h3 hnb).cell 0, (hf.keeps h3 hfb).cell 0, (hu.keeps h3 hnb).frozen 0⟩

theorem clr_step (L : TL) (cap : Nat) (t : Tu) (fb nb : Nat) (hfn : fb ≠ nb) (w0 A A' : World) (hl : ∀ k ∈ L.l, k < w0.heap.size) (hnb : w0.heap.size ≤ nb) (hd : L.l.Nodup) (x : Bool) (pre : List WL) (hpre : pre = if x then [] else [L.x]) (hI : ClrI L cap t fb nb w0 pre A) (n m : Nat)
    (h : WyAt A' (if x then L.x else L.y) cap (if x then t.a.clr else t.b.clr) ∧ Keeps (if x then L.x else L.y).l A.drew A' ∧ Blk A' fb 93 #[.func (.func 46) #[] #[]] ∧ Blk A' nb 3 #[.int .i64 n]) (hm : m = (if 1 ≤ (pre ++ [if x then L.x else L.y]).length then t.a.i.length else 0) + (if 2 ≤ (pre ++ [if x then L.x else L.y]).length then t.b.i.length else 0)) :
    ClrI L cap t fb nb w0 (pre ++ [if x then L.x else L.y]) (A'.setCell ⟨nb, 0, none⟩ (.int .i64 m)) := by
  obtain ⟨h1, h2, h3, h4⟩ := h
  obtain ⟨a1, a2, a3, a4⟩ := TL.apart hd
  have hk : Keeps [nb] A' (A'.setCell ⟨nb, 0, none⟩ (.int .i64 m)) := (Keeps.refl [nb] A').setCell (p := ⟨nb, 0, none⟩) (.inl (by simp)) _
  have hno : ∀ k ∈ L.l, k ∉ [nb] := fun k hm hn => by simp only [List.mem_singleton] at hn; have := hl k hm; omega
  cases x with
  | true =>
    subst hpre
    refine ⟨h3.far (p := ⟨nb, 0, none⟩) hfn _, ?_, ?_, ?_, ?_⟩
    · rw [← hm]; simpa using h4.set_ 0 (.int .i64 m)
    · exact WyAt.keeps h1 hk (fun k hm => hno k (L.sub.1 k hm))
    · exact (WyAt.keeps (w := A.drew) (show WyAt A.drew L.y cap t.b from hI.b.keeps (Keeps.refl [] A).drew (by simp)) h2 (fun k hm => a4 k hm)).keeps hk (fun k hm => hno k (L.sub.2.1 k hm))
    · exact (hI.k.drew.trans (h2.mono (fun _ hk => List.mem_append_left _ hk))).trans' hk (fun i hi => by simp only [List.mem_singleton] at hi; omega)
  | false =>
    subst hpre
    refine ⟨h3.far (p := ⟨nb, 0, none⟩) hfn _, ?_, ?_, ?_, ?_⟩
    · rw [← hm]; simpa using h4.set_ 0 (.int .i64 m)
    · exact (WyAt.keeps (w := A.drew) (show WyAt A.drew L.x cap t.a.clr from hI.a.keeps (Keeps.refl [] A).drew (by simp)) h2 (fun k hm => a3 k hm)).keeps hk (fun k hm => hno k (L.sub.1 k hm))
    · exact WyAt.keeps h1 hk (fun k hm => hno k (L.sub.2.1 k hm))
    · exact (hI.k.drew.trans (h2.mono (fun _ hk => List.mem_append_right _ hk))).trans' hk (fun i hi => by simp only [List.mem_singleton] at hi; omega)

set_option maxRecDepth 100000 in
set_option maxHeartbeats 2000000 in
theorem uclear_any (L : TL) (cap : Nat) (t : Tu) (n : Nat) (hn : t.a.i.length + t.b.i.length = n) (hca : WyOk cap t.a.clr) (hcb : WyOk cap t.b.clr) (w : World) (h : TuAt w L cap t) :
    Calls Tryz.prog 21 #[.pointer (some ⟨L.b, 0, none⟩)] w fun e w' => e = .returned (.int .i64 n) ∧ WyAt w' L.x cap t.a.clr ∧ WyAt w' L.y cap t.b.clr ∧ Keeps (L.x.l ++ L.y.l) w w' := by
  refine (callsIn_wide (n := 9)).1 ?_
  have HN := Lib.hid hn
  have c1 := h.c1
  have c2 := h.c2
  have HLT := Lib.hid h.lt
  have HAL : Hid (t.a.i.length ≤ 4096) := (by have := h.a.fi.le; omega : t.a.i.length ≤ 4096)
  have HBL : Hid (t.b.i.length ≤ 4096) := (by have := h.b.fi.le; omega : t.b.i.length ≤ 4096)
  clear hn
  refine callsIn_of_wp_marks Tryz.func21 rfl trivial ?_ rfl
  simp only [Tryz.ntmps21, List.size_toArray, List.length_cons, List.length_nil, Nat.reduceAdd, Nat.reduceSub, Array.replicate_succ, Array.replicate_zero, List.push_toArray, List.append_toArray, List.nil_append, List.cons_append]
  gi_wp2_with (fail)
  refine ⟨trivial, (callsIn_wide.2 (each_any _ _)).mono ?_⟩
  rintro e w1 ⟨rfl, rfl⟩
  gi_wp2_with (fail)
  obtain ⟨W0, hW0⟩ : ∃ W0, (((w.alloc (.cells #[.func (.func 46) #[] #[]] 93)).alloc (.cells #[.int .i64 0] 3)).alloc (.cells #[.pointer (some ⟨L.b, 0, none⟩)] 25)) = W0 := ⟨_, rfl⟩
  have hs0 : W0.heap.size = w.heap.size + 3 := by rw [← hW0]; simp
  have hK0 : Keeps [] w W0 := by rw [← hW0]; exact (((Keeps.refl [] w).alloc _).alloc _).alloc _
  have b0 : Blk W0 w.heap.size 93 #[.func (.func 46) #[] #[]] := by rw [← hW0]; exact ((Blk.new w _ _).alloc _).alloc _
  have b1 : Blk W0 (w.heap.size + 1) 3 #[.int .i64 0] := by rw [← hW0]; exact (Blk.new2 _ _ _ _ (by simp)).alloc _
  have b2 : W0.cell? ⟨w.heap.size + 1 + 1, 0, none⟩ = some (.pointer (some ⟨L.b, 0, none⟩)) := by rw [← hW0]; exact (Blk.new2 _ 25 _ _ (by simp)).cell 0
  have d1 := hK0.cells _ _ c1
  have d2 := hK0.cells _ _ c2
  rw [hW0]
  have h0 : ClrI L cap t w.heap.size (w.heap.size + 1) w [] W0 := ⟨b0, b1, h.a.keeps hK0 (by simp), h.b.keeps hK0 (by simp), hK0.mono (by simp)⟩
  have HND := Lib.hid h.nd
  clear hW0 c1 c2 b0 b1 h hK0
  refine wpIn_rangeD rfl (by omega) (gf := 74) (lb := #[.pointer (some ⟨w.heap.size + 1 + 1, 0, none⟩)]) rfl trivial (enters rfl rfl rfl) (each_seq 8 (w.heap.size + 1 + 1) L.b L.x L.y W0 b2 d1 d2) (Below.refl _ _) (fun _ => rfl)
    (fun pre A => ClrI L cap t w.heap.size (w.heap.size + 1) w pre A) (fun _ _ => False)
    (fun s A A' h hb => h.low (by omega) (by omega) (by omega) HLT.out hb) (fun s A A' h hb => h) h0
    (fun x => { tmps := #[.pointer (some ⟨L.b, 0, none⟩), undef, .int .i64 0, .pointer (some ⟨w.heap.size, 0, none⟩), .pointer (some ⟨w.heap.size + 1, 0, none⟩), .pointer (some ⟨x.b, 0, none⟩), .pointer (some ⟨L.b, 0, none⟩), .func (.func 74) #[] #[.pointer (some ⟨w.heap.size + 1 + 1, 0, none⟩)], .pointer (some ⟨x.b, 0, none⟩), undef, undef, undef, undef, undef, undef], defers := [] }) ?assign ?body ?done ?stop
  case assign =>
    intro l x W K hK
    unfold wayS
    gi_wp2
    exact hK
  case body =>
    intro l pre x W hI hpre hsz
    have hmo : Tryz.prog.follows .mixedOrders = true := by kernel_rfl
    have hcase : (pre = [] ∧ x = L.x) ∨ (pre = [L.x] ∧ x = L.y) := by
      obtain ⟨r, hr⟩ := hpre
      match pre, hr with
      | [], hr => left; simp only [List.nil_append, List.cons_append, List.cons.injEq] at hr; exact ⟨rfl, hr.1⟩
      | [p], hr => right; simp only [List.nil_append, List.cons_append, List.cons.injEq] at hr; exact ⟨by rw [hr.1], hr.2.1⟩
      | p :: q :: r', hr => simp at hr
    have e0 := hI.f.cell 0
    have e2 := hI.n.frozen 0
    have HI := Lib.hid hI
    clear hI hpre b2 d1 d2 h0
    rcases hcase with ⟨rfl, rfl⟩ | ⟨rfl, rfl⟩
    · obtain ⟨m, hm⟩ : ∃ m, t.a.i.length = m := ⟨_, rfl⟩
      have HM := Lib.hid hm
      have P1 : Blk W (w.heap.size + 1) 3 #[.int .i64 0] := HI.out.n
      have hcl := yclear_in L.x cap t.a m hm hca w.heap.size (w.heap.size + 1) (.func (.func 46) #[] #[]) (.int .i64 0) (fun hm => by have := HLT.out _ (L.sub.1 _ hm); omega) (fun hm => by have := HLT.out _ (L.sub.1 _ hm); omega) W.drew (HI.out.a.keeps (Keeps.refl [] W).drew (by simp)) HI.out.f.drew (Blk.drew P1)
      have HC := Lib.hid hcl
      have e1' : W.cell? ⟨w.heap.size + 1, 0, none⟩ = some (.int .i64 0) := P1.cell 0
      have hwr : IntKind.i64.wrap ((m : Int)) = (m : Int) := by
        have h1 : m ≤ 4096 := by have := HM.out; have := HAL.out; omega
        exact IntWalk.i64_in _ (by omega)
      clear hm hcl P1
      gi_wp2_with (fail)
      gi_region_with_o (first | (refine ⟨trivial, ?_⟩; gi_at_call 46; refine (callsIn_wide.2 HC.out).mono ?_; rintro e w2 ⟨rfl, hq, z1, z2, z3⟩))
      all_goals gi_wp2
      all_goals
        have hcs := clr_step L cap t w.heap.size (w.heap.size + 1) (by omega) w W w2 HLT.out (by omega) HND.out true [] rfl HI.out _ _ hq rfl
        refine ⟨⟨?_, ?_⟩, ?_⟩
        · have := hq.2.1.size
          simpa [World.setCell] using this
        · intro k hk hl
          rw [Below.heap_setCell _ _ _ _ (by dsimp only; omega)]
          exact hq.2.1.block k hl (fun hm => by have := HLT.out _ (L.sub.1 _ hm); omega)
        · simpa [HM.out] using hcs
    · obtain ⟨m, hm⟩ : ∃ m, t.b.i.length = m := ⟨_, rfl⟩
      have HM := Lib.hid hm
      obtain ⟨m1, hm1⟩ : ∃ m1, t.a.i.length = m1 := ⟨_, rfl⟩
      have HM1 := Lib.hid hm1
      have hm1b : m1 ≤ 4096 := by have := HAL.out; omega
      have P1 : Blk W (w.heap.size + 1) 3 #[.int .i64 (m1 : Int)] := by
        have h1 := HI.out.n
        simp only [List.length_cons, List.length_nil, Nat.zero_add, Nat.le_refl, if_pos, hm1] at h1
        simpa using h1
      clear hm1
      have hcl := yclear_in L.y cap t.b m hm hcb w.heap.size (w.heap.size + 1) (.func (.func 46) #[] #[]) (.int .i64 (m1 : Int)) (fun hm => by have := HLT.out _ (L.sub.2.1 _ hm); omega) (fun hm => by have := HLT.out _ (L.sub.2.1 _ hm); omega) W.drew (HI.out.b.keeps (Keeps.refl [] W).drew (by simp)) HI.out.f.drew (Blk.drew P1)
      have HC := Lib.hid hcl
      have e1' : W.cell? ⟨w.heap.size + 1, 0, none⟩ = some (.int .i64 (m1 : Int)) := P1.cell 0
      have hwr : IntKind.i64.wrap ((m1 : Int) + (m : Int)) = (m1 : Int) + (m : Int) := by
        have h1 : m ≤ 4096 := by have := HM.out; have := HBL.out; omega
        exact IntWalk.i64_in _ (by omega)
      clear hm hcl P1
      gi_wp2_with (fail)
      gi_region_with_o (first | (refine ⟨trivial, ?_⟩; gi_at_call 46; refine (callsIn_wide.2 HC.out).mono ?_; rintro e w2 ⟨rfl, hq, z1, z2, z3⟩))
      all_goals gi_wp2
      all_goals
        have hcs := clr_step L cap t w.heap.size (w.heap.size + 1) (by omega) w W w2 HLT.out (by omega) HND.out false [L.x] rfl HI.out _ _ hq rfl
        refine ⟨⟨?_, ?_⟩, ?_⟩
        · have := hq.2.1.size
          simpa [World.setCell] using this
        · intro k hk hl
          rw [Below.heap_setCell _ _ _ _ (by dsimp only; omega)]
          exact hq.2.1.block k hl (fun hm => by have := HLT.out _ (L.sub.2.1 _ hm); omega)
        · simpa [HM.out, HM1.out] using hcs
  case done =>
    rintro D W hD hI hK
    have hD2 : w.heap.size + 3 ≤ D := by omega
    have hn : Blk W (w.heap.size + 1) 3 #[.int .i64 (n : Int)] := by
      have h1 : Blk W (w.heap.size + 1) 3 #[.int .i64 (t.a.i.length + t.b.i.length : Nat)] := hI.n
      rw [HN.out] at h1
      exact h1
    have e1 : W.cell? ⟨w.heap.size + 1, 0, none⟩ = some (.int .i64 n) := hn.cell 0
    have HI := Lib.hid hI
    clear hI hn hs0 h0 b2 d1 d2
    gi_wp2
    refine ⟨by simp, .inl ⟨_, _, rfl, run_takeDeferred hK, ?_⟩⟩
    have hbl := belowK_b (n₀ := w.heap.size) (w := w) (Nat.le_refl _) W D _ (.deferred none) (by omega) hK rfl rfl
    have hI2 := HI.out.low (B := w.heap.size + 3) (by omega) (by omega) (by omega) HLT.out (A' := W.putObj D (.deferred none)) ⟨rfl, rfl, rfl, by simp, fun k hk => World.putObj_heap_other (by omega)⟩
    exact ⟨_, results_tmp rfl _ _ _, rfl, by simpa using hI2.a, by simpa using hI2.b, hI2.k⟩
  case stop =>
    rintro D pre W _ _ h _
    exact h.elim
end Go.Proofs.YtollcbacpoohlaaGreatDoor
