/- The walks of try and of take. -/
import Derived.Test.YtfedhhndkeakhaaDoorWireU
namespace Go.Proofs.YtfedhhndkeakhaaDoor
open Go.RowKit
attribute [local go_sem ↓] Go.wp_at_zero Go.wp_at_succ

/-- The taker's three steps. -/
def steps (g : Nat) : Array Value := #[.func (.func 36) #[.pointer (some ⟨g, 0, none⟩)] #[], .func (.func 37) #[.pointer (some ⟨g, 0, none⟩)] #[], .func (.func 38) #[.pointer (some ⟨g, 0, none⟩)] #[]]

set_option maxRecDepth 100000 in
set_option maxHeartbeats 4000000 in
theorem try_any (g b : Nat) (t : ByteArray) (ht : t.size ≤ maxLen) (ty : TypeId) (w : World) (hb : Blk w g 70 (tk t 0 0 ⟨#[]⟩)) (hs : Blk w b ty (steps g)) (hgb : g ≠ b) (e : Nat → Addr) (he : Env w e) (hg : ∀ i ∈ [0, 1, 2, 3, 4], i ≠ g ∧ (e i).block ≠ g)
    (x : Option Nat) (hx : tryE t = x) :
    Calls Tryd.prog 35 #[.slice (some ⟨b, 0, none⟩) 3 3] w fun r w' => r = .returned (errV e x) ∧ IfNone x (Blk w' g 70 (tk t (frOf t).kind (frOf t).stream (frOf t).data)) ∧ Keeps [g] w w' := by
  have HB := Lib.hid hb
  have HE := Lib.hid he
  have HT := Lib.hid ht
  have HG := Lib.hid hg
  have HX := Lib.hid hx
  have HS := Lib.hid hs
  have s0 := hs.cell 0
  have s1 := hs.cell 1
  have s2 := hs.cell 2
  simp only [steps, List.getElem?_toArray, List.getElem?_cons_zero, List.getElem?_cons_succ] at s0 s1 s2
  obtain ⟨y1, h1⟩ : ∃ y, kindE t = y := ⟨_, rfl⟩
  have H1 := Lib.hid h1
  clear hb he ht hg hx hs h1
  go_enter Tryd.func35, Tryd.ntmps35
  go_wp2
  refine wp_loop_rounds 4 ?_
  rw [rounds_succ]
  go_wp2_with (fail)
  refine (kind_any g t HT.out 0 0 ⟨#[]⟩ _ HB.out e HE.out y1 H1.out).mono ?_
  rintro r w1 ⟨rfl, hb1, hk1⟩
  have HB1 := Lib.hid hb1
  have HK1 := Lib.hid hk1
  have HE1 := Lib.hid (Sents.keeps HE.out hk1 (fun i hi => ⟨by simpa using (HG.out i hi).1, by simpa using (HG.out i hi).2⟩))
  have hs1 := HS.out.keeps hk1 (by simpa using hgb.symm)
  have HS1 := Lib.hid hs1
  have s0 := hs1.cell 0
  have s1 := hs1.cell 1
  have s2 := hs1.cell 2
  simp only [steps, List.getElem?_toArray, List.getElem?_cons_zero, List.getElem?_cons_succ] at s0 s1 s2
  clear hb1 hk1 hs1
  cases y1 with
  | some q =>
    obtain rfl : x = some q := by rw [← HX.out]; unfold tryE; rw [H1.out]
    unfold errV
    go_wp2
    go_ret
    exact ⟨rfl, IfNone.no _, HK1.out⟩
  | none =>
    unfold errV
    obtain ⟨y2, h2⟩ : ∃ y, headE t = y := ⟨_, rfl⟩
    have H2 := Lib.hid h2
    clear h2
    go_wp2_with (fail)
    rw [rounds_succ]
    go_wp2_with (fail)
    refine (head_any g t HT.out _ 0 ⟨#[]⟩ _ HB1.out e HE1.out HG.out y2 H2.out).mono ?_
    rintro r w2 ⟨rfl, hb2, hk2⟩
    have HB2 := Lib.hid hb2
    have HK2 := Lib.hid (HK1.out.trans hk2)
    have HE2 := Lib.hid (Sents.keeps HE1.out hk2 (fun i hi => ⟨by simpa using (HG.out i hi).1, by simpa using (HG.out i hi).2⟩))
    have hs2 := HS1.out.keeps hk2 (by simpa using hgb.symm)
    have s0 := hs2.cell 0
    have s1 := hs2.cell 1
    have s2 := hs2.cell 2
    simp only [steps, List.getElem?_toArray, List.getElem?_cons_zero, List.getElem?_cons_succ] at s0 s1 s2
    clear hb2 hk2 hs2
    cases y2 with
    | some q =>
      obtain rfl : x = some q := by rw [← HX.out]; unfold tryE; rw [H1.out, H2.out]
      unfold errV
      go_wp2
      go_ret
      exact ⟨rfl, IfNone.no _, HK2.out⟩
    | none =>
      unfold errV
      have h5 : ¬ t.size < 5 := by
        have := H2.out
        unfold headE at this
        intro h
        rw [if_pos h] at this; cases this
      have HB2' := HB2.out
      rw [if_neg h5] at HB2'
      have HB3 := Lib.hid HB2'
      obtain ⟨n, hn⟩ : ∃ n : Nat, n35 t = n := ⟨(n35 t).toNat, by have := (num2_bd (t.extract 3 5)).1; unfold n35; omega⟩
      have HN := Lib.hid hn
      have H3 : Hid (dataE t = x) := Lib.hid (by rw [← HX.out]; unfold tryE; rw [H1.out, H2.out])
      have H5 : Hid (5 ≤ t.size) := Lib.hid (by omega)
      clear HB2' hn h5
      go_wp2_with (fail)
      rw [rounds_succ]
      go_wp2_with (fail)
      refine (data_any g t HT.out ⟨#[]⟩ _ HB3.out e HE2.out HG.out H5.out n HN.out x H3.out).mono ?_
      rintro r w3 ⟨rfl, hb3, hk3⟩
      have HB4 := Lib.hid hb3
      have HK3 := Lib.hid (HK2.out.trans hk3)
      have hs3 := HS1.out
      clear hb3 hk3 hs3
      cases x with
      | some q =>
        unfold errV
        go_wp2
        go_ret
        exact ⟨rfl, IfNone.no _, HK3.out⟩
      | none =>
        unfold errV
        go_wp2_with (fail)
        rw [rounds_succ]
        go_wp2
        go_ret
        exact ⟨rfl, IfNone.yes (HB4.out rfl), HK3.out⟩

theorem takeA_bad {s : ByteArray} {a : Int} (h : a < 0 ∨ (s.size : Int) < a) : takeA s a = (fr0, 0, some 1) := if_pos h
theorem takeA_some {s : ByteArray} {a : Nat} (h : a ≤ s.size) {q : Nat} (hq : tryE (s.extract a s.size) = some q) : takeA s a = (fr0, 0, some q) := by
  unfold takeA
  rw [if_neg (by omega), Int.toNat_natCast, hq]
theorem takeA_none {s : ByteArray} {a : Nat} (h : a ≤ s.size) (hq : tryE (s.extract a s.size) = none) : takeA s a = (frOf (s.extract a s.size), (a : Int) + 5 + n35 (s.extract a s.size), none) := by
  unfold takeA
  rw [if_neg (by omega), Int.toNat_natCast, hq]

theorem fr_res {w : World} {b : Nat} {f : Fr} (h : Blk w b 23 f.cells) : w.cell? ⟨b, 0, none⟩ = some (.int .i64 f.kind) ∧ w.cell? ⟨b, 1, none⟩ = some (.int .i64 f.stream) ∧ w.cell? ⟨b, 2, none⟩ = some (.string f.data) :=
  ⟨h.cell 0, h.cell 1, h.cell 2⟩

set_option maxRecDepth 100000 in
set_option maxHeartbeats 4000000 in
theorem take_any (s : ByteArray) (hs : s.size ≤ maxLen) (a : Int) (f : Fr) (n : Int) (x : Option Nat) (hA : takeA s a = (f, n, x)) (w : World) (e : Nat → Addr) (he : Env w e) :
    Calls Tryd.prog 28 #[.string s, .int .i64 a] w fun r w' => r = .returned (.tuple #[f.v, .int .i64 n, errV e x]) ∧ Keeps [] w w' := by
  have HE := Lib.hid he
  have HS := Lib.hid hs
  unfold maxLen at hs
  by_cases hbad : a < 0 ∨ (s.size : Int) < a
  · rw [takeA_bad hbad] at hA
    cases hA
    have HE1 := Lib.hid (he.keep ((Keeps.refl [] w).alloc (.cells fr0.cells 23)))
    have e1 := HE1.out.cell 1 (by simp)
    unfold Fr.cells fr0 at e1
    dsimp only at e1
    rcases (show a < 0 ∨ (¬ a < 0 ∧ (s.size : Int) < a) by omega) with h1 | ⟨h1, h2⟩
    all_goals
      clear he hbad
      go_enter Tryd.func28, Tryd.ntmps28
      go_wp2
      go_region
      go_wp2
      exact bodyPost_ret (v := .tuple #[.agg #[.int .i64 0, .int .i64 0, .string ⟨#[]⟩], .int .i64 0, .iface 90 (.pointer (some (e 1)))]) (by simp [results, Tryd.results28, go_sem]) rfl ⟨rfl, ((Keeps.refl [] w).alloc _).drew⟩
  · obtain ⟨k, rfl⟩ : ∃ k : Nat, a = k := ⟨a.toNat, by omega⟩
    have hk : k ≤ s.size := by omega
    obtain ⟨t, ht⟩ : ∃ t, s.extract k s.size = t := ⟨_, rfl⟩
    have hts : t.size ≤ maxLen := by rw [← ht, extract_size]; unfold maxLen; omega
    have HTS := Lib.hid hts
    have h1 : ¬ (k : Int) < 0 := by omega
    have h2 : ¬ (s.size : Int) < (k : Int) := by omega
    have hk1 : (k : Int) ≤ (s.size : Int) := by omega
    have hk0 : (0 : Int) ≤ (k : Int) := by omega
    have HT := Lib.hid ht
    obtain ⟨y, hy⟩ : ∃ y, tryE t = y := ⟨_, rfl⟩
    have HY := Lib.hid hy
    have HA := Lib.hid hA
    have HKS := Lib.hid hk
    clear hbad hts ht hy hA he hk
    go_enter Tryd.func28, Tryd.ntmps28
    go_wp2_with (fail)
    rw [HT.out]
    obtain ⟨W0, hW0⟩ : ∃ W0, ((w.alloc (.cells #[.int .i64 0, .int .i64 0, .string ⟨#[]⟩] 23)).alloc (.cells #[.string t, .int .i64 0, .int .i64 0, .string ⟨#[]⟩] 70)).alloc (.cells #[.func (.func 36) #[.pointer (some ⟨w.heap.size + 1, 0, none⟩)] #[], .func (.func 37) #[.pointer (some ⟨w.heap.size + 1, 0, none⟩)] #[], .func (.func 38) #[.pointer (some ⟨w.heap.size + 1, 0, none⟩)] #[]] 72) = W0 := ⟨_, rfl⟩
    have hk0 : Keeps [] w W0 := hW0 ▸ (((Keeps.refl [] w).alloc _).alloc _).alloc _
    have hR : Blk W0 w.heap.size 23 fr0.cells := hW0 ▸ ((Blk.new w 23 fr0.cells).alloc _).alloc _
    have hT : Blk W0 (w.heap.size + 1) 70 (tk t 0 0 ⟨#[]⟩) := hW0 ▸ (blk_two w _ 70 (tk t 0 0 ⟨#[]⟩)).alloc _
    have hS : Blk W0 (w.heap.size + 1 + 1) 72 (steps (w.heap.size + 1)) := by
      rw [← hW0]
      have := blk_two (w.alloc (.cells #[.int .i64 0, .int .i64 0, .string ⟨#[]⟩] 23)) (.cells #[.string t, .int .i64 0, .int .i64 0, .string ⟨#[]⟩] 70) 72 (steps (w.heap.size + 1))
      rw [World.size_alloc] at this
      exact this
    rw [hW0]
    have hgg : ∀ i ∈ [0, 1, 2, 3, 4], i ≠ w.heap.size + 1 ∧ (e i).block ≠ w.heap.size + 1 := fun i hi => by
      have h1 := World.block_lt_of_cell? w _ (HE.out.cell i hi)
      obtain ⟨c, ty, hb⟩ := HE.out.row i hi
      have h2 := (Array.getElem?_eq_some_iff.1 hb).1
      dsimp only at h1
      exact ⟨by omega, by omega⟩
    have HR := Lib.hid hR
    have HK := Lib.hid hk0
    have HTK := Lib.hid hT
    have HSB := Lib.hid hS
    have HE0 := Lib.hid (HE.out.keep hk0)
    have HGG := Lib.hid hgg
    clear hW0 hk0 hR hT hS hgg
    refine (try_any (w.heap.size + 1) (w.heap.size + 1 + 1) t HTS.out _ _ HTK.out HSB.out (by omega) e HE0.out HGG.out y HY.out).mono ?_
    rintro r w1 ⟨rfl, hb1, hk1⟩
    have hR1 := HR.out.keeps hk1 (by simp)
    have HR1 := Lib.hid hR1
    have HK1 := Lib.hid (HK.out.trans' hk1 (by simp))
    have HB1 := Lib.hid hb1
    obtain ⟨r0, r1, r2⟩ := fr_res hR1
    have q0 := hR1.frozen 0
    have q1 := hR1.frozen 1
    have q2 := hR1.frozen 2
    clear hR1 hk1 hb1 HR HTK HSB HE0 HGG
    cases y with
    | some q =>
      unfold errV
      have hA := HA.out
      rw [takeA_some HKS.out (q := q) (by rw [HT.out]; exact HY.out)] at hA
      cases hA
      unfold fr0 at r0 r1 r2
      dsimp only at r0 r1 r2
      have hF := ((HR1.out.set_ 0 (.int .i64 0)).set_ 1 (.int .i64 0)).set_ 2 (.string ⟨#[]⟩)
      have x0 := hF.cell 0
      have x1 := hF.cell 1
      have x2 := hF.cell 2
      simp only [fr0, Fr.cells] at x0 x1 x2
      have HX := Lib.hid (And.intro x0 (And.intro x1 x2))
      clear x0 x1 x2 hF
      go_wp2
      obtain ⟨x0, x1, x2⟩ := HX.out
      exact bodyPost_ret (v := .tuple #[fr0.v, .int .i64 0, .iface 90 (.pointer (some (e q)))]) (by simp [results, Tryd.results28, go_sem, x0, x1, x2, Fr.v, fr0]) rfl ⟨rfl, ((HK1.out.setCell (p := ⟨w.heap.size, 0, none⟩) (.inr (Nat.le_refl _)) _).setCell (p := ⟨w.heap.size, 1, none⟩) (.inr (Nat.le_refl _)) _).setCell (p := ⟨w.heap.size, 2, none⟩) (.inr (Nat.le_refl _)) _⟩
    | none =>
      unfold errV
      obtain ⟨m, hm⟩ : ∃ m : Nat, n35 t = m := ⟨(n35 t).toNat, by have := (num2_bd (t.extract 3 5)).1; unfold n35; omega⟩
      have hA := HA.out
      rw [takeA_none HKS.out (by rw [HT.out]; exact HY.out), HT.out, hm] at hA
      cases hA
      have hyt := HY.out
      have hm2 := (num2_bd (t.extract 3 5)).2
      have hlen : 5 + m ≤ t.size := by
        unfold tryE at hyt
        cases h1 : kindE t with
        | some g1 => rw [h1] at hyt; cases hyt
        | none =>
          rw [h1] at hyt
          dsimp only at hyt
          cases h2 : headE t with
          | some g1 => rw [h2] at hyt; cases hyt
          | none =>
            rw [h2] at hyt
            dsimp only at hyt
            unfold dataE at hyt
            by_cases h3 : (t.size : Int) < 5 + n35 t
            · rw [if_pos h3] at hyt; cases hyt
            · omega
      have hts2 : t.size = s.size - k := by rw [← HT.out, extract_size]; omega
      have hb := HB1.out rfl
      obtain ⟨c0, c1, c2, c3⟩ := tk_cells hb
      have H5 : Hid (5 ≤ t.size) := Lib.hid (by omega)
      have HM := Lib.hid hm
      have hw1 : IntKind.i64.wrap ((k : Int) + 5) = k + 5 := IntWalk.i64_in _ (by unfold n35 at hm; omega)
      have hw2 : IntKind.i64.wrap ((k : Int) + 5 + (m : Int)) = k + 5 + m := IntWalk.i64_in _ (by unfold n35 at hm; omega)
      have r0' : ∀ (o : Obj) (i : Nat), ((w1.alloc o).drewN i).cell? ⟨w.heap.size, 0, none⟩ = some (.int .i64 0) := fun o i => ((HR1.out.alloc o).drewN i).cell 0
      have r1' : ∀ (o : Obj) (i : Nat), ((w1.alloc o).drewN i).cell? ⟨w.heap.size, 1, none⟩ = some (.int .i64 0) := fun o i => ((HR1.out.alloc o).drewN i).cell 1
      have r2' : ∀ (o : Obj) (i : Nat), ((w1.alloc o).drewN i).cell? ⟨w.heap.size, 2, none⟩ = some (.string ⟨#[]⟩) := fun o i => ((HR1.out.alloc o).drewN i).cell 2
      have q0' : ∀ (o : Obj) (i j : Nat), ((w1.alloc o).drewN i).frozen? ⟨w.heap.size, j, none⟩ = false := fun o i j => ((HR1.out.alloc o).drewN i).frozen j
      have hF : ∀ (o : Obj) (i : Nat), Blk (((((w1.alloc o).drewN i).setCell ⟨w.heap.size, 0, none⟩ (.int .i64 (frOf t).kind)).setCell ⟨w.heap.size, 1, none⟩ (.int .i64 (frOf t).stream)).setCell ⟨w.heap.size, 2, none⟩ (.string (frOf t).data)) w.heap.size 23 (frOf t).cells := fun o i =>
        ((((HR1.out.alloc o).drewN i).set_ 0 _).set_ 1 _).set_ 2 _
      have HF := Lib.hid hF
      clear hb hm hm2 hlen hts2 hyt hF
      go_wp2
      go_region_held3 (fun w' => w'.cell? ⟨w.heap.size + 1, 0, none⟩ = some (.string t) ∧ w'.cell? ⟨w.heap.size + 1, 1, none⟩ = some (.int .i64 (frOf t).kind) ∧ w'.cell? ⟨w.heap.size + 1, 2, none⟩ = some (.int .i64 (frOf t).stream) ∧ w'.cell? ⟨w.heap.size + 1, 3, none⟩ = some (.string (frOf t).data)) (go_keep) (first | (go_at_call 39; refine (long_eq t HTS.out H5.out _ HM.out _).mono ?_; rintro e w' ⟨rfl, n2, rfl⟩))
      go_wp2
      have hfin := HF.out (.cells #[.string t] 68) (1 + n2)
      obtain ⟨x0, x1, x2⟩ := fr_res hfin
      exact bodyPost_ret (v := .tuple #[(frOf t).v, .int .i64 ((k : Int) + 5 + m), .nilIface]) (by simp [results, Tryd.results28, go_sem, x0, x1, x2, Fr.v]) rfl ⟨rfl, (((((HK1.out.alloc _).drewN _).setCell (p := ⟨w.heap.size, 0, none⟩) (.inr (Nat.le_refl _)) _).setCell (p := ⟨w.heap.size, 1, none⟩) (.inr (Nat.le_refl _)) _).setCell (p := ⟨w.heap.size, 2, none⟩) (.inr (Nat.le_refl _)) _)⟩

theorem takeA_lt {s : ByteArray} {a : Int} {f : Fr} {n : Int} {x : Option Nat} (h : takeA s a = (f, n, x)) : ∀ y, x = some y → y < 5 := by
  rintro y rfl
  unfold takeA at h
  split at h
  · cases h; omega
  · cases hq : tryE (s.extract a.toNat s.size) with
    | some q => rw [hq] at h; cases h; exact tryE_lt _ _ hq
    | none => rw [hq] at h; cases h

theorem told_eq (x : Option Nat) (q : Int) (hq : toldN x = q) (e : Nat → Addr) (hx : ∀ y, x = some y → y < 5) (w : World) (h : Env w e) :
    Calls Tryd.prog 27 #[errV e x] w fun r w' => r = .returned (.int .i64 q) ∧ w = w' := hq ▸ told_any x e hx w h

/-- Take's answer. -/
def TakeA (s : ByteArray) (a : Int) : Fr × Int × Int := ((takeA s a).1, (takeA s a).2.1, toldN (takeA s a).2.2)

set_option maxRecDepth 100000 in
set_option maxHeartbeats 2000000 in
theorem Take_any (s : ByteArray) (hs : s.size ≤ maxLen) (a : Int) (f : Fr) (n q : Int) (hA : TakeA s a = (f, n, q)) (w : World) (e : Nat → Addr) (he : Env w e) :
    Calls Tryd.prog 15 #[.string s, .int .i64 a] w fun r w' => r = .returned (.tuple #[f.v, .int .i64 n, .int .i64 q]) ∧ Keeps [] w w' := by
  obtain ⟨x, hA', hq⟩ : ∃ x, takeA s a = (f, n, x) ∧ toldN x = q := by
    have h1 : (takeA s a).1 = f := congrArg Prod.fst hA
    have h2 : (takeA s a).2.1 = n := congrArg (fun p => p.2.1) hA
    exact ⟨(takeA s a).2.2, by rw [← h1, ← h2], congrArg (fun p => p.2.2) hA⟩
  clear hA
  have HS := Lib.hid hs
  have HA := Lib.hid hA'
  have HX := Lib.hid (takeA_lt hA')
  have hR := Blk.new w 23 #[.int .i64 0, .int .i64 0, .string ⟨#[]⟩]
  have hk := (Keeps.refl [] w).alloc (.cells #[.int .i64 0, .int .i64 0, .string ⟨#[]⟩] 23)
  have HR := Lib.hid hR
  have HK := Lib.hid hk
  have HE := Lib.hid (he.keep hk)
  have HQ := Lib.hid hq
  obtain ⟨ev, hev⟩ : ∃ ev, errV e x = ev := ⟨_, rfl⟩
  have HV := Lib.hid hev
  clear hA' hs he hR hk hq
  go_enter Tryd.func15, Tryd.ntmps15
  go_wp2_with (fail)
  refine (take_any s HS.out a f n x HA.out _ e HE.out).mono ?_
  rintro r w1 ⟨rfl, hk⟩
  rw [hev]
  unfold Fr.v
  have HK1 := Lib.hid (HK.out.trans hk)
  have HE1 := Lib.hid (HE.out.keep hk)
  have HR1 := Lib.hid (HR.out.keeps hk (by simp))
  clear hk hev
  go_wp2_with (fail)
  obtain ⟨W2, hW2⟩ : ∃ W2, w1.alloc (.cells #[.int .i64 f.kind, .int .i64 f.stream, .string f.data] 23) = W2 := ⟨_, rfl⟩
  have hk2 : Keeps [] w1 W2 := hW2 ▸ (Keeps.refl [] w1).alloc _
  have hb2 : Blk W2 w1.heap.size 23 f.cells := hW2 ▸ Blk.new w1 23 f.cells
  have hr2 := HR1.out.keeps hk2 (by simp)
  obtain ⟨c0, c1, c2⟩ := fr_res hb2
  have r0 := hr2.cell 0
  have r1 := hr2.cell 1
  have r2 := hr2.cell 2
  simp only [List.getElem?_toArray, List.getElem?_cons_zero, List.getElem?_cons_succ] at r0 r1 r2
  have q0 := hr2.frozen 0
  have q1 := hr2.frozen 1
  have q2 := hr2.frozen 2
  have HK2 := Lib.hid (HK1.out.trans hk2)
  have HE2 := Lib.hid (HE1.out.keep hk2)
  have hne : w.heap.size ≠ w1.heap.size := by have := HR1.out.lt; omega
  have HF := Lib.hid (((hr2.set_ 0 (.int .i64 f.kind)).set_ 1 (.int .i64 f.stream)).set_ 2 (.string f.data))
  obtain ⟨g1, hg1⟩ : ∃ g1, w1.heap.size = g1 := ⟨_, rfl⟩
  rw [hg1] at c0 c1 c2 hne
  rw [hW2, hg1]
  clear hk2 hb2 hr2 hW2 hg1
  go_region_held3 (fun w' => w'.cell? ⟨g1, 0, none⟩ = some (.int .i64 f.kind) ∧ w'.cell? ⟨g1, 1, none⟩ = some (.int .i64 f.stream) ∧ w'.cell? ⟨g1, 2, none⟩ = some (.string f.data)) (go_keep) (first | (go_at_call 27; rw [← HV.out]; refine (told_eq x q HQ.out e HX.out _ (HE2.out.keep (((Keeps.refl [] _).drew)))).mono ?_; rintro e' w' ⟨rfl, rfl⟩))
  all_goals go_wp2
  have hfin : Blk _ w.heap.size 23 f.cells := HF.out
  obtain ⟨x0, x1, x2⟩ := fr_res hfin
  exact bodyPost_ret (v := .tuple #[f.v, .int .i64 n, .int .i64 q]) (by simp [results, Tryd.results15, go_sem, x0, x1, x2, Fr.v]) rfl ⟨rfl, (((HK2.out.setCell (p := ⟨w.heap.size, 0, none⟩) (.inr (Nat.le_refl _)) _).setCell (p := ⟨w.heap.size, 1, none⟩) (.inr (Nat.le_refl _)) _).setCell (p := ⟨w.heap.size, 2, none⟩) (.inr (Nat.le_refl _)) _).drew⟩
end Go.Proofs.YtfedhhndkeakhaaDoor
