/- The walks of isAll, Right, check, told. -/
import Derived.Test.YtbcppmcjbcnlbaaDoorSnapD
import Derived.Test.YtbcppmcjbcnlbaaDoorLaid
namespace Go.Proofs.YtbcppmcjbcnlbaaDoor
open Go.RowKit Go.Shelf
attribute [local go_sem ↓] Go.wp_at_zero Go.wp_at_succ

def askFns : Array Value := #[.func (.func 33) #[] #[], .func (.func 34) #[] #[], .func (.func 35) #[] #[], .func (.func 36) #[] #[]]

set_option maxRecDepth 100000 in
set_option maxHeartbeats 4000000 in
theorem isAll_any (a : Option Addr) (c : Nat) (V : List SV) (p : Po) (n : Nat) (hn : V.length = n) (fb : Nat) (ty : TypeId) (w : World) (hP : PoolV w a c V p) (hf : Blk w fb ty askFns) (R : Bool) (hR : rightP p = R) :
    Calls Tryd.prog 32 #[.agg #[.slice a n c, .int .i64 p.next], .slice (some ⟨fb, 0, none⟩) 4 4] w fun r w' => r = .returned (.bool R) ∧ Keeps [] w w' := by
  obtain ⟨x, hx⟩ : ∃ x, p.next = x := ⟨_, rfl⟩
  have HX := Lib.hid hx
  have HN := Lib.hid hn
  have HP := Lib.hid hP
  have HR := Lib.hid hR
  rw [hx]
  have HF := Lib.hid (hf.alloc (.cells #[.slice a n c, .int .i64 x] 59))
  have HB := Lib.hid (Blk.new w 59 #[.slice a n c, .int .i64 x])
  have HK := Lib.hid ((Keeps.refl [] w).alloc (.cells #[.slice a n c, .int .i64 x] 59))
  obtain ⟨y1, h1⟩ : ∃ y, countedB p = y := ⟨_, rfl⟩
  have H1 := Lib.hid h1
  obtain ⟨y2, h2⟩ : ∃ y, apartB x [] p.l = y := ⟨_, rfl⟩
  have H2 := Lib.hid h2
  obtain ⟨y3, h3⟩ : ∃ y, sortedB 0 p.l = y := ⟨_, rfl⟩
  have H3 := Lib.hid h3
  obtain ⟨y4, h4⟩ : ∃ y, wholeB p.l = y := ⟨_, rfl⟩
  have H4 := Lib.hid h4
  clear hP hf hR h1 h2 h3 h4 hx hn
  go_enter Tryd.func32, Tryd.ntmps32
  go_wp2
  refine wp_loop_rounds 5 ?_
  rw [rounds_succ]
  have s0 := HF.out.cell 0
  have s1 := HF.out.cell 1
  have s2 := HF.out.cell 2
  have s3 := HF.out.cell 3
  simp only [askFns, List.getElem?_toArray, List.getElem?_cons_zero, List.getElem?_cons_succ] at s0 s1 s2 s3
  have q0 := HB.out.cell 0
  have q1 := HB.out.cell 1
  simp only [List.getElem?_toArray, List.getElem?_cons_zero, List.getElem?_cons_succ] at q0 q1
  go_wp2_with (fail)
  have hcc := fun W => counted_any a c p n (by rw [← HP.out.mt.len, HN.out]) (by rw [← HN.out]; exact HP.out.small) y1 H1.out W
  rw [HX.out] at hcc
  refine (hcc _).mono ?_
  clear hcc
  rintro r w1 ⟨rfl, hk⟩
  clear s0 s1 s2 s3 q0 q1
  have HF := Lib.hid (HF.out.keeps hk (by simp))
  have HB := Lib.hid (HB.out.keeps hk (by simp))
  have HK := Lib.hid (HK.out.trans hk)
  clear hk
  cases y1 with
  | false =>
    obtain rfl : R = false := by rw [← HR.out]; unfold rightP; rw [HX.out, H1.out]; simp
    go_wp2
    go_ret
    exact ⟨rfl, HK.out⟩
  | true =>
    go_wp2_with (fail)
    rw [rounds_succ]
    have s0 := HF.out.cell 0
    have s1 := HF.out.cell 1
    have s2 := HF.out.cell 2
    have s3 := HF.out.cell 3
    simp only [askFns, List.getElem?_toArray, List.getElem?_cons_zero, List.getElem?_cons_succ] at s0 s1 s2 s3
    have q0 := HB.out.cell 0
    have q1 := HB.out.cell 1
    simp only [List.getElem?_toArray, List.getElem?_cons_zero, List.getElem?_cons_succ] at q0 q1
    go_wp2_with (fail)
    have hcc := fun W (hk : Keeps [] w W) => areApart_any a c x V p.l HP.out.small W (HP.out.row.keeps hk) (HP.out.mt.keeps hk) y2 H2.out
    rw [HN.out] at hcc
    refine (hcc _ HK.out).mono ?_
    clear hcc
    rintro r w2 ⟨rfl, hk⟩
    clear s0 s1 s2 s3 q0 q1
    have HF := Lib.hid (HF.out.keeps hk (by simp))
    have HB := Lib.hid (HB.out.keeps hk (by simp))
    have HK := Lib.hid (HK.out.trans hk)
    clear hk
    cases y2 with
    | false =>
      obtain rfl : R = false := by rw [← HR.out]; unfold rightP; rw [HX.out, H1.out, H2.out]; simp
      go_wp2
      go_ret
      exact ⟨rfl, HK.out⟩
    | true =>
      go_wp2_with (fail)
      rw [rounds_succ]
      have s0 := HF.out.cell 0
      have s1 := HF.out.cell 1
      have s2 := HF.out.cell 2
      have s3 := HF.out.cell 3
      simp only [askFns, List.getElem?_toArray, List.getElem?_cons_zero, List.getElem?_cons_succ] at s0 s1 s2 s3
      have q0 := HB.out.cell 0
      have q1 := HB.out.cell 1
      simp only [List.getElem?_toArray, List.getElem?_cons_zero, List.getElem?_cons_succ] at q0 q1
      go_wp2_with (fail)
      have hcc := fun W (hk : Keeps [] w W) => areSorted_any a c x V p.l HP.out.small W (HP.out.row.keeps hk) (HP.out.mt.keeps hk) y3 H3.out
      rw [HN.out] at hcc
      refine (hcc _ HK.out).mono ?_
      clear hcc
      rintro r w3 ⟨rfl, hk⟩
      clear s0 s1 s2 s3 q0 q1
      have HF := Lib.hid (HF.out.keeps hk (by simp))
      have HB := Lib.hid (HB.out.keeps hk (by simp))
      have HK := Lib.hid (HK.out.trans hk)
      clear hk
      cases y3 with
      | false =>
        obtain rfl : R = false := by rw [← HR.out]; unfold rightP; rw [HX.out, H1.out, H2.out, H3.out]; simp
        go_wp2
        go_ret
        exact ⟨rfl, HK.out⟩
      | true =>
        go_wp2_with (fail)
        rw [rounds_succ]
        have s0 := HF.out.cell 0
        have s1 := HF.out.cell 1
        have s2 := HF.out.cell 2
        have s3 := HF.out.cell 3
        simp only [askFns, List.getElem?_toArray, List.getElem?_cons_zero, List.getElem?_cons_succ] at s0 s1 s2 s3
        have q0 := HB.out.cell 0
        have q1 := HB.out.cell 1
        simp only [List.getElem?_toArray, List.getElem?_cons_zero, List.getElem?_cons_succ] at q0 q1
        go_wp2_with (fail)
        have hcc := fun W (hk : Keeps [] w W) => areWhole_any a c x V p.l HP.out.small W (HP.out.row.keeps hk) (HP.out.mt.keeps hk) y4 H4.out
        rw [HN.out] at hcc
        refine (hcc _ HK.out).mono ?_
        clear hcc
        rintro r w4 ⟨rfl, hk⟩
        clear s0 s1 s2 s3 q0 q1
        have HF := Lib.hid (HF.out.keeps hk (by simp))
        have HB := Lib.hid (HB.out.keeps hk (by simp))
        have HK := Lib.hid (HK.out.trans hk)
        clear hk
        cases y4 with
        | false =>
          obtain rfl : R = false := by rw [← HR.out]; unfold rightP; rw [HX.out, H1.out, H2.out, H3.out, H4.out]; simp
          go_wp2
          go_ret
          exact ⟨rfl, HK.out⟩
        | true =>
          obtain rfl : R = true := by rw [← HR.out]; unfold rightP; rw [HX.out, H1.out, H2.out, H3.out, H4.out]; rfl
          go_wp2_with (fail)
          rw [rounds_succ]
          go_wp2
          go_ret
          exact ⟨rfl, HK.out⟩

set_option maxRecDepth 100000 in
set_option maxHeartbeats 1000000 in
theorem nright_any (a : Option Addr) (c : Nat) (V : List SV) (p : Po) (n : Nat) (hn : V.length = n) (w : World) (hP : PoolV w a c V p) (R : Bool) (hR : rightP p = R) :
    Calls Tryd.prog 15 #[.agg #[.slice a n c, .int .i64 p.next]] w fun r w' => r = .returned (.bool R) ∧ Keeps [] w w' := by
  obtain ⟨x, hx⟩ : ∃ x, p.next = x := ⟨_, rfl⟩
  have hk := ((Keeps.refl [] w).alloc (.cells #[.slice a n c, .int .i64 x] 24)).alloc (.cells askFns 61)
  have hcc := fun W fb (hf : Blk W fb 61 askFns) (hkk : Keeps [] w W) => isAll_any a c V p n hn fb 61 W (hP.keeps hkk) hf R hR
  rw [hx] at hcc ⊢
  have HCC := Lib.hid hcc
  have HK := Lib.hid hk
  have HF := Lib.hid (blk_at (w.alloc (.cells #[.slice a n c, .int .i64 x] 24)) 61 askFns (w.heap.size + 1) (by simp))
  clear hcc hk hx hP hR hn
  go_enter Tryd.func15, Tryd.ntmps15
  go_wp2_with (fail)
  refine (HCC.out _ _ HF.out HK.out).mono ?_
  rintro r w1 ⟨rfl, hk⟩
  have HK := Lib.hid (HK.out.trans hk)
  clear hk
  go_wp2
  go_ret
  exact ⟨rfl, HK.out⟩

/-- The sentinels of the listings. -/
def Env (w : World) (e : Nat → Addr) : Prop := Sents w 92 [0, 1, 2] e
theorem Env.keep {w w' : World} {e : Nat → Addr} (h : Env w e) (hk : Keeps [] w w') : Env w' e := Sents.keep h hk
def toldN : Option Nat → Int
  | none => 0
  | some 0 => 160
  | some 1 => 2
  | some _ => 161

set_option maxHeartbeats 1000000 in
theorem told_any (x : Option Nat) (e : Nat → Addr) (hx : ∀ y, x = some y → y < 3) (w : World) (h : Env w e) (q : Int) (hq : toldN x = q) :
    Calls Tryd.prog 25 #[errV e x] w fun r w' => r = .returned (.int .i64 q) ∧ w = w' := by
  have c0 := h.cell 0 (by simp)
  have c1 := h.cell 1 (by simp)
  have c2 := h.cell 2 (by simp)
  have hg : ∀ g, g < 3 → ∀ b, (x == some g) = b → Calls Tryd.prog 45 #[errV e x, .iface 92 (.pointer (some (e g)))] w fun r w' => r = .returned (.bool b) ∧ w = w' := fun g hg b hb =>
    is_own h x g (fun y hy => by have := hx y hy; simp; omega) (by simp; omega) b hb
  have HG := Lib.hid hg
  have hc : x = none ∨ x = some 0 ∨ x = some 1 ∨ x = some 2 := by
    cases x with
    | none => exact .inl rfl
    | some y =>
      have := hx y rfl
      have h5 : y = 0 ∨ y = 1 ∨ y = 2 := by omega
      rcases h5 with rfl | rfl | rfl <;> simp
  clear hg h hx
  go_enter Tryd.func25, Tryd.ntmps25
  go_wp2_with (fail)
  rcases hc with rfl | rfl | rfl | rfl
  all_goals subst hq
  · refine (HG.out 1 (by omega) false rfl).mono ?_
    rintro r w' ⟨rfl, rfl⟩
    go_wp2_with (fail)
    refine (HG.out 0 (by omega) false rfl).mono ?_
    rintro r w' ⟨rfl, rfl⟩
    go_wp2_with (fail)
    refine (HG.out 2 (by omega) false rfl).mono ?_
    rintro r w' ⟨rfl, rfl⟩
    go_wp2_with (fail)
    go_ret
    exact ⟨rfl, rfl⟩
  · refine (HG.out 1 (by omega) false rfl).mono ?_
    rintro r w' ⟨rfl, rfl⟩
    go_wp2_with (fail)
    refine (HG.out 0 (by omega) true rfl).mono ?_
    rintro r w' ⟨rfl, rfl⟩
    go_wp2_with (fail)
    go_ret
    exact ⟨rfl, rfl⟩
  · refine (HG.out 1 (by omega) true rfl).mono ?_
    rintro r w' ⟨rfl, rfl⟩
    go_wp2_with (fail)
    go_ret
    exact ⟨rfl, rfl⟩
  · refine (HG.out 1 (by omega) false rfl).mono ?_
    rintro r w' ⟨rfl, rfl⟩
    go_wp2_with (fail)
    refine (HG.out 0 (by omega) false rfl).mono ?_
    rintro r w' ⟨rfl, rfl⟩
    go_wp2_with (fail)
    refine (HG.out 2 (by omega) true rfl).mono ?_
    rintro r w' ⟨rfl, rfl⟩
    go_wp2_with (fail)
    go_ret
    exact ⟨rfl, rfl⟩

set_option maxRecDepth 100000 in
set_option maxHeartbeats 1000000 in
theorem check_any (a : Option Addr) (c : Nat) (V : List SV) (p : Po) (n : Nat) (hn : V.length = n) (now : Int) (w : World) (hP : PoolV w a c V p) (e : Nat → Addr) (he : Env w e) (R : Bool) (hR : checkB p now = R) :
    Calls Tryd.prog 23 #[.agg #[.slice a n c, .int .i64 p.next], .int .i64 now] w fun r w' => r = .returned (errV e (if R then none else some 0)) ∧ Keeps [] w w' := by
  obtain ⟨x, hx⟩ : ∃ x, p.next = x := ⟨_, rfl⟩
  have hk := (Keeps.refl [] w).alloc (.cells #[.slice a n c, .int .i64 x] 24)
  have hb := Blk.new w 24 #[.slice a n c, .int .i64 x]
  obtain ⟨y, hy⟩ : ∃ y, rightP p = y := ⟨_, rfl⟩
  obtain ⟨u, hu⟩ : ∃ u, lastU p.l = u := ⟨_, rfl⟩
  have hcc := fun W (hkk : Keeps [] w W) => nright_any a c V p n hn W (hP.keeps hkk) y hy
  have hcl := fun W (hkk : Keeps [] w W) => last_any a c x V hP.small W (hP.row.keeps hkk) u ((lastV_all hP.mt).trans hu)
  rw [hx] at hcc ⊢
  rw [hn] at hcl
  have HCC := Lib.hid hcc
  have HCL := Lib.hid hcl
  have HE := Lib.hid he
  have HK := Lib.hid hk
  have HB := Lib.hid hb
  have HY := Lib.hid hy
  have HU := Lib.hid hu
  have HR := Lib.hid hR
  have c0 := hb.cell 0
  have c1 := hb.cell 1
  clear hcc hcl he hk hb hy hu hR hP hx hn
  go_enter Tryd.func23, Tryd.ntmps23
  go_wp2_with (fail)
  refine (HCC.out _ HK.out).mono ?_
  rintro r w1 ⟨rfl, hk⟩
  have HK := Lib.hid (HK.out.trans hk)
  clear hk c0 c1
  cases y with
  | false =>
    obtain rfl : R = false := by rw [← HR.out]; unfold checkB; rw [HY.out]; rfl
    have e0 := (HE.out.keep HK.out).cell 0 (by simp)
    go_wp2
    go_ret
    exact ⟨rfl, HK.out⟩
  | true =>
    go_wp2_with (fail)
    refine (HCL.out _ HK.out).mono ?_
    rintro r w2 ⟨rfl, hk⟩
    have HK := Lib.hid (HK.out.trans hk)
    clear hk
    have e0 := (HE.out.keep HK.out).cell 0 (by simp)
    by_cases h1 : now < u
    · obtain rfl : R = false := by rw [← HR.out]; unfold checkB; rw [HY.out, HU.out]; simp; omega
      go_wp2
      go_ret
      exact ⟨rfl, HK.out⟩
    · by_cases h2 : 1000000000000 < now
      · obtain rfl : R = false := by rw [← HR.out]; unfold checkB; rw [HY.out, HU.out]; simp; omega
        go_wp2
        go_ret
        exact ⟨rfl, HK.out⟩
      · obtain rfl : R = true := by rw [← HR.out]; unfold checkB; rw [HY.out, HU.out]; simp; omega
        go_wp2
        go_ret
        exact ⟨rfl, HK.out⟩
end Go.Proofs.YtbcppmcjbcnlbaaDoor
