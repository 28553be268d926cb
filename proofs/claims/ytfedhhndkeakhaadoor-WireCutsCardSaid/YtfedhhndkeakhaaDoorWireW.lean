/- The walk of the document's Take. -/
import Derived.Test.YtfedhhndkeakhaaDoorWireV
namespace Go.Proofs.YtfedhhndkeakhaaDoor
open Go.RowKit
attribute [local go_sem ↓] Go.wp_at_zero Go.wp_at_succ

theorem rnumber_eq (s : ByteArray) (hs : s.size ≤ maxLen) (m : Int) (hm : num2 s = m) (w : World) :
    Calls Tryd.prog 22 #[.string s] w fun r w' => r = .returned (.int .i64 m) ∧ ∃ n, w.drewN n = w' := hm ▸ rnumber_any s hs w

theorem keeps_set3 {w w1 : World} {g : Nat} (hk : Keeps [] w w1) (hg : w.heap.size ≤ g) (x y z : Value) : Keeps [] w (((w1.setCell ⟨g, 0, none⟩ x).setCell ⟨g, 1, none⟩ y).setCell ⟨g, 2, none⟩ z) :=
  ((hk.setCell (p := ⟨g, 0, none⟩) (.inr hg) x).setCell (p := ⟨g, 1, none⟩) (.inr hg) y).setCell (p := ⟨g, 2, none⟩) (.inr hg) z
theorem TakeA_some {s : ByteArray} {a : Nat} (h : a ≤ s.size) {q : Nat} (hq : tryE (s.extract a s.size) = some q) : TakeA s a = (fr0, 0, toldN (some q)) := by
  unfold TakeA; rw [takeA_some h hq]
theorem TakeA_none {s : ByteArray} {a : Nat} (h : a ≤ s.size) (hq : tryE (s.extract a s.size) = none) : TakeA s a = (frOf (s.extract a s.size), (a : Int) + 5 + n35 (s.extract a s.size), 0) := by
  unfold TakeA; rw [takeA_none h hq]; rfl

set_option maxRecDepth 100000 in
set_option maxHeartbeats 2000000 in
theorem rtake_early (s : ByteArray) (_hs : s.size ≤ maxLen) (a : Int) (t : ByteArray) (ht : s.extract a.toNat s.size = t) (q : Int)
    (hq : (a < 0 ∨ (s.size : Int) < a) ∧ q = 2 ∨ (0 ≤ a ∧ a ≤ s.size ∧ t.size = 0) ∧ q = 30 ∨ (0 ≤ a ∧ a ≤ s.size ∧ 0 < t.size ∧ (byte0 t < 1 ∨ 8 < byte0 t)) ∧ q = 31 ∨ (0 ≤ a ∧ a ≤ s.size ∧ 0 < t.size ∧ 1 ≤ byte0 t ∧ byte0 t ≤ 8 ∧ t.size < 5) ∧ q = 30) (w : World) :
    Calls Tryd.prog 16 #[.string s, .int .i64 a] w fun r w' => r = .returned (.tuple #[fr0.v, .int .i64 0, .int .i64 q]) ∧ Keeps [] w w' := by
  rcases hq with ⟨hb, rfl⟩ | ⟨⟨h0, h1, h2⟩, rfl⟩ | ⟨⟨h0, h1, h2, h3⟩, rfl⟩ | ⟨⟨h0, h1, h2, h3, h4, h5⟩, rfl⟩
  · rcases (show a < 0 ∨ (¬ a < 0 ∧ (s.size : Int) < a) by omega) with h1 | ⟨h1, h2⟩
    all_goals
      clear hb ht
      go_enter Tryd.func16, Tryd.ntmps16
      go_wp2
      exact bodyPost_ret (v := .tuple #[fr0.v, .int .i64 0, .int .i64 2]) (by simp [results, Tryd.results16, go_sem, Fr.v, fr0]) rfl ⟨rfl, (Keeps.refl [] w).alloc _⟩
  · obtain ⟨k, rfl⟩ : ∃ k : Nat, a = k := ⟨a.toNat, by omega⟩
    rw [Int.toNat_natCast] at ht
    have hk : ¬ (k : Int) < 0 := by omega
    have hk2 : ¬ (s.size : Int) < k := by omega
    obtain rfl := bytes_zero t h2
    clear h0 h2
    go_enter Tryd.func16, Tryd.ntmps16
    go_wp2
    exact bodyPost_ret (v := .tuple #[fr0.v, .int .i64 0, .int .i64 30]) (by simp [results, Tryd.results16, go_sem, Fr.v, fr0]) rfl ⟨rfl, (Keeps.refl [] w).alloc _⟩
  · obtain ⟨k, rfl⟩ : ∃ k : Nat, a = k := ⟨a.toNat, by omega⟩
    rw [Int.toNat_natCast] at ht
    have hk : ¬ (k : Int) < 0 := by omega
    have hk2 : ¬ (s.size : Int) < k := by omega
    have hB := byte0_eq t h2
    have hem := bytes_some t h2
    rw [← hB] at h3
    clear h0 hB
    rcases (show ((t[0]'h2).toNat : Int) < 1 ∨ (¬ ((t[0]'h2).toNat : Int) < 1 ∧ 8 < ((t[0]'h2).toNat : Int)) by omega) with h4 | ⟨h4, h5⟩
    all_goals
      clear h3
      go_enter Tryd.func16, Tryd.ntmps16
      go_wp2
      exact bodyPost_ret (v := .tuple #[fr0.v, .int .i64 0, .int .i64 31]) (by simp [results, Tryd.results16, go_sem, Fr.v, fr0]) rfl ⟨rfl, (Keeps.refl [] w).alloc _⟩
  · obtain ⟨k, rfl⟩ : ∃ k : Nat, a = k := ⟨a.toNat, by omega⟩
    rw [Int.toNat_natCast] at ht
    have hk : ¬ (k : Int) < 0 := by omega
    have hk2 : ¬ (s.size : Int) < k := by omega
    have hB := byte0_eq t h2
    have hem := bytes_some t h2
    rw [← hB] at h3 h4
    have h6 : (t.size : Int) < 5 := by omega
    have h7 : ¬ ((t[0]'h2).toNat : Int) < 1 := by omega
    have h8 : ¬ 8 < ((t[0]'h2).toNat : Int) := by omega
    clear h0 hB h3 h4 h5
    go_enter Tryd.func16, Tryd.ntmps16
    go_wp2
    exact bodyPost_ret (v := .tuple #[fr0.v, .int .i64 0, .int .i64 30]) (by simp [results, Tryd.results16, go_sem, Fr.v, fr0]) rfl ⟨rfl, (Keeps.refl [] w).alloc _⟩

set_option maxRecDepth 100000 in
set_option maxHeartbeats 2000000 in
theorem rtake_late (s : ByteArray) (_hs : s.size ≤ maxLen) (k : Nat) (hk : k ≤ s.size) (t : ByteArray) (ht : s.extract k s.size = t) (h5 : 5 ≤ t.size) (h1 : 1 ≤ byte0 t) (h8 : byte0 t ≤ 8) (m : Nat) (hm : n35 t = m) (q : Int)
    (hq : 512 < m ∧ q = 32 ∨ (m ≤ 512 ∧ t.size < 5 + m) ∧ q = 30) (w : World) :
    Calls Tryd.prog 16 #[.string s, .int .i64 k] w fun r w' => r = .returned (.tuple #[fr0.v, .int .i64 0, .int .i64 q]) ∧ Keeps [] w w' := by
  have h2 : 0 < t.size := by omega
  have hts : t.size ≤ s.size := by rw [← ht, extract_size]; omega
  have HNS : Hid ((t.extract 3 5).size ≤ maxLen) := Lib.hid (by rw [extract_size]; unfold maxLen; omega)
  have hk1 : ¬ (k : Int) < 0 := by omega
  have hk2 : ¬ (s.size : Int) < k := by omega
  have hk3 : (k : Int) ≤ (s.size : Int) := by omega
  have hB := byte0_eq t h2
  have hem := bytes_some t h2
  rw [← hB] at h1 h8
  have h6 : (5 : Int) ≤ (t.size : Int) := by omega
  have h9 : ¬ ((t[0]'h2).toNat : Int) < 1 := by omega
  have h10 : ¬ 8 < ((t[0]'h2).toNat : Int) := by omega
  have HM : Hid (num2 (t.extract 3 5) = m) := Lib.hid hm
  rcases hq with ⟨hq, rfl⟩ | ⟨⟨hq, hq2⟩, rfl⟩
  · have h11 : (512 : Int) < (m : Int) := by omega
    clear h5 h1 h8 hB hm hk hq
    go_enter Tryd.func16, Tryd.ntmps16
    go_wp2_with (fail)
    refine (rnumber_eq _ (by first | exact HNS.out | (rw [ht]; exact HNS.out)) m (by first | exact HM.out | (rw [ht]; exact HM.out)) _).mono ?_
    rintro r w1 ⟨rfl, n2, rfl⟩
    go_wp2
    exact bodyPost_ret (v := .tuple #[fr0.v, .int .i64 0, .int .i64 32]) (by simp [results, Tryd.results16, go_sem, Fr.v, fr0]) rfl ⟨rfl, keeps_set3 (((Keeps.refl [] w).alloc _).drewN _) (Nat.le_refl _) _ _ _⟩
  · have h11 : ¬ (512 : Int) < (m : Int) := by omega
    have h12 : (t.size : Int) < 5 + (m : Int) := by omega
    clear h5 h1 h8 hB hm hk hq hq2
    go_enter Tryd.func16, Tryd.ntmps16
    go_wp2_with (fail)
    refine (rnumber_eq _ (by first | exact HNS.out | (rw [ht]; exact HNS.out)) m (by first | exact HM.out | (rw [ht]; exact HM.out)) _).mono ?_
    rintro r w1 ⟨rfl, n2, rfl⟩
    go_wp2
    exact bodyPost_ret (v := .tuple #[fr0.v, .int .i64 0, .int .i64 30]) (by simp [results, Tryd.results16, go_sem, Fr.v, fr0]) rfl ⟨rfl, keeps_set3 (((Keeps.refl [] w).alloc _).drewN _) (Nat.le_refl _) _ _ _⟩

set_option maxRecDepth 100000 in
set_option maxHeartbeats 4000000 in
theorem rtake_last (s : ByteArray) (hs : s.size ≤ maxLen) (k : Nat) (hk : k ≤ s.size) (t : ByteArray) (ht : s.extract k s.size = t) (h5 : 5 ≤ t.size) (h1 : 1 ≤ byte0 t) (h8 : byte0 t ≤ 8) (m : Nat) (hm : n35 t = m)
    (hm1 : m ≤ 512) (hm2 : 5 + m ≤ t.size) (f : Fr) (hf : frOf t = f) (R : Bool) (hR : rightF f = R) (f' : Fr) (n q : Int) (hA : (if R then (f, (k : Int) + 5 + m, 0) else (fr0, 0, 33)) = (f', n, q)) (w : World) :
    Calls Tryd.prog 16 #[.string s, .int .i64 k] w fun r w' => r = .returned (.tuple #[f'.v, .int .i64 n, .int .i64 q]) ∧ Keeps [] w w' := by
  have h2 : 0 < t.size := by omega
  have hts : t.size = s.size - k := by rw [← ht, extract_size]; omega
  have HNS : Hid ((t.extract 3 5).size ≤ maxLen) := Lib.hid (by rw [extract_size]; unfold maxLen; omega)
  have HNS2 : Hid ((t.extract 1 3).size ≤ maxLen) := Lib.hid (by rw [extract_size]; unfold maxLen; omega)
  have HDS : Hid (f.data.size ≤ maxLen) := Lib.hid (by
    rw [← hf]; show (t.extract 5 (5 + n35 t).toNat).size ≤ maxLen
    rw [extract_size]; omega)
  unfold maxLen at hs
  have hk1 : ¬ (k : Int) < 0 := by omega
  have hk2 : ¬ (s.size : Int) < k := by omega
  have hk3 : (k : Int) ≤ (s.size : Int) := by omega
  have hB := byte0_eq t h2
  have hem := bytes_some t h2
  have HB := Lib.hid hB
  rw [← hB] at h1 h8
  have h6 : (5 : Int) ≤ (t.size : Int) := by omega
  have h9 : ¬ ((t[0]'h2).toNat : Int) < 1 := by omega
  have h10 : ¬ 8 < ((t[0]'h2).toNat : Int) := by omega
  have h11 : ¬ (512 : Int) < (m : Int) := by omega
  have h12 : ¬ (t.size : Int) < 5 + (m : Int) := by omega
  have h13 : (5 : Int) + (m : Int) ≤ (t.size : Int) := by omega
  have h14 : (0 : Int) ≤ 5 + (m : Int) := by omega
  have h15 : (5 : Int) ≤ 5 + (m : Int) := by omega
  have hw0 : IntKind.i64.wrap (5 + (m : Int)) = 5 + m := IntWalk.i64_in _ (by omega)
  have hw3 : IntKind.i64.wrap ((t[0]'h2).toNat : Int) = ((t[0]'h2).toNat : Int) := IntWalk.i64_in _ (by omega)
  have h16 : (3 : Int) ≤ (t.size : Int) := by omega
  have h17 : (1 : Int) ≤ (t.size : Int) := by omega
  have hkm : (k : Int) + 5 + (m : Int) ≤ 9223372036854775807 := by omega
  have HM : Hid (num2 (t.extract 3 5) = m) := Lib.hid hm
  obtain ⟨st, hst⟩ : ∃ st, num2 (t.extract 1 3) = st := ⟨_, rfl⟩
  have HST := Lib.hid hst
  have HT := Lib.hid ht
  have HFE : Hid (f = ⟨((t[0]'h2).toNat : Int), st, t.extract 5 (5 + (m : Int)).toNat⟩) := Lib.hid (by rw [← hf]; unfold frOf; rw [← hB, hst, hm])
  have HR := Lib.hid hR
  have HA := Lib.hid hA
  clear h5 h1 h8 hB hm hk hm1 hm2 hts hst hf hR hA ht
  go_enter Tryd.func16, Tryd.ntmps16
  have ht := HT.out
  go_wp2_with (fail)
  refine (rnumber_eq _ (by first | exact HNS.out | (rw [ht]; exact HNS.out)) m (by first | exact HM.out | (rw [ht]; exact HM.out)) _).mono ?_
  rintro r w1 ⟨rfl, n2, rfl⟩
  go_wp2
  obtain ⟨W1, hW1⟩ : ∃ W1, (w.alloc (.cells #[.int .i64 0, .int .i64 0, .string ⟨#[]⟩] 23)).drewN n2 = W1 := ⟨_, rfl⟩
  have hB1 : Blk W1 w.heap.size 23 fr0.cells := hW1 ▸ (Blk.new w 23 fr0.cells)
  have hk1' : Keeps [] w W1 := hW1 ▸ ((Keeps.refl [] w).alloc _).drewN _
  have HB1 := Lib.hid hB1
  have HK1 := Lib.hid hk1'
  have HFE2 := Lib.hid HFE.out.symm
  rw [hW1]
  clear hW1 hB1 hk1'
  have hz : ∀ i, Blk ((W1.alloc (.cells #[.int .i64 0, .int .i64 0, .string ⟨#[]⟩] 23)).drewN i) W1.heap.size 23 #[.int .i64 0, .int .i64 0, .string ⟨#[]⟩] := fun i => (Blk.new W1 23 #[.int .i64 0, .int .i64 0, .string ⟨#[]⟩]).drewN i
  have z0 : ∀ i, ((W1.drewN i).alloc (.cells #[.int .i64 0, .int .i64 0, .string ⟨#[]⟩] 23)).cell? ⟨W1.heap.size, 0, none⟩ = some (.int .i64 0) := fun i => (hz i).cell 0
  have z1 : ∀ i, ((W1.drewN i).alloc (.cells #[.int .i64 0, .int .i64 0, .string ⟨#[]⟩] 23)).cell? ⟨W1.heap.size, 1, none⟩ = some (.int .i64 0) := fun i => (hz i).cell 1
  have z2 : ∀ i, ((W1.drewN i).alloc (.cells #[.int .i64 0, .int .i64 0, .string ⟨#[]⟩] 23)).cell? ⟨W1.heap.size, 2, none⟩ = some (.string ⟨#[]⟩) := fun i => (hz i).cell 2
  have z3 : ∀ i j, ((W1.drewN i).alloc (.cells #[.int .i64 0, .int .i64 0, .string ⟨#[]⟩] 23)).frozen? ⟨W1.heap.size, j, none⟩ = false := fun i j => (hz i).frozen j
  have HZ := Lib.hid hz
  clear hz
  go_cut [9] (fun p wx => ∃ b : Nat, p = .pointer (some ⟨b, 0, none⟩) ∧ Blk wx b 23 f.cells ∧ Keeps [] W1 wx)
  case first =>
    go_region_held3 (fun _ => True) (exact trivial) (first | (go_at_call 22; refine (rnumber_eq _ HNS2.out st HST.out _).mono ?_; rintro e w' ⟨rfl, n3, rfl⟩))
    all_goals go_wp2_with (fail)
    all_goals go_meet
    all_goals
      refine ⟨_, rfl, ?_, ?_⟩
      · rw [HFE.out]
        exact (((HZ.out _).set_ 0 _).set_ 1 _).set_ 2 _
      · exact keeps_set3 (((Keeps.refl [] W1).alloc _).drewN _) (Nat.le_refl _) _ _ _
  case rest =>
    obtain ⟨b, rfl, hb, hk⟩ := hcut
    obtain ⟨c0, c1, c2⟩ := fr_res hb
    have HBf := Lib.hid hb
    have HK2 := Lib.hid (HK1.out.trans hk)
    have HB2 := Lib.hid (HB1.out.keeps hk (by simp))
    clear hb hk z0 z1 z2 z3
    go_wp2_with (fail)
    refine (rright_any f HDS.out R HR.out _).mono ?_
    rintro r w2 ⟨rfl, hk⟩
    have HK3 := Lib.hid (HK2.out.trans hk)
    have hb := HBf.out.keeps hk (by simp)
    obtain ⟨c0, c1, c2⟩ := fr_res hb
    have hB3 := HB2.out.keeps hk (by simp)
    obtain ⟨r0, r1, r2⟩ := fr_res hB3
    have q0 := hB3.frozen 0
    have q1 := hB3.frozen 1
    have q2 := hB3.frozen 2
    have HB3 := Lib.hid hB3
    clear hb hk hB3
    cases R with
    | false =>
      have hA := HA.out
      cases hA
      have HFin : Hid (Blk _ w.heap.size 23 fr0.cells) := Lib.hid (((HB3.out.set_ 0 (.int .i64 0)).set_ 1 (.int .i64 0)).set_ 2 (.string ⟨#[]⟩))
      go_wp2
      obtain ⟨x0, x1, x2⟩ := fr_res HFin.out
      exact bodyPost_ret (v := .tuple #[fr0.v, .int .i64 0, .int .i64 33]) (by simp [results, Tryd.results16, go_sem, x0, x1, x2, Fr.v]) rfl ⟨rfl, keeps_set3 HK3.out (Nat.le_refl _) _ _ _⟩
    | true =>
      have hA := HA.out
      cases hA
      have HFin : Hid (Blk _ w.heap.size 23 f.cells) := Lib.hid (((HB3.out.set_ 0 (.int .i64 f.kind)).set_ 1 (.int .i64 f.stream)).set_ 2 (.string f.data))
      go_wp2
      obtain ⟨x0, x1, x2⟩ := fr_res HFin.out
      exact bodyPost_ret (v := .tuple #[f.v, .int .i64 ((k : Int) + 5 + m), .int .i64 0]) (by simp [results, Tryd.results16, go_sem, x0, x1, x2, Fr.v]) rfl ⟨rfl, keeps_set3 HK3.out (Nat.le_refl _) _ _ _⟩

theorem rTake_any (s : ByteArray) (hs : s.size ≤ maxLen) (a : Int) (f : Fr) (n q : Int) (hA : TakeA s a = (f, n, q)) (w : World) :
    Calls Tryd.prog 16 #[.string s, .int .i64 a] w fun r w' => r = .returned (.tuple #[f.v, .int .i64 n, .int .i64 q]) ∧ Keeps [] w w' := by
  by_cases hbad : a < 0 ∨ (s.size : Int) < a
  · have : TakeA s a = (fr0, 0, 2) := by unfold TakeA; rw [takeA_bad hbad]; rfl
    rw [this] at hA
    cases hA
    exact rtake_early s hs a _ rfl 2 (.inl ⟨hbad, rfl⟩) w
  · obtain ⟨k, rfl⟩ : ∃ k : Nat, a = k := ⟨a.toNat, by omega⟩
    have hk : k ≤ s.size := by omega
    obtain ⟨t, ht⟩ : ∃ t, s.extract k s.size = t := ⟨_, rfl⟩
    have err : ∀ g, tryE t = some g → f = fr0 ∧ n = 0 ∧ q = toldN (some g) := fun g hg => by
      rw [TakeA_some hk (q := g) (by rw [ht]; exact hg)] at hA
      cases hA
      exact ⟨rfl, rfl, rfl⟩
    by_cases h0 : t.size = 0
    · obtain ⟨rfl, rfl, rfl⟩ := err 2 (by unfold tryE kindE; rw [if_pos h0])
      exact rtake_early s hs k t (by rw [Int.toNat_natCast]; exact ht) 30 (.inr (.inl ⟨⟨by omega, by omega, h0⟩, rfl⟩)) w
    · by_cases hb : byte0 t < 1 ∨ 8 < byte0 t
      · obtain ⟨rfl, rfl, rfl⟩ := err 3 (by unfold tryE kindE; rw [if_neg h0, if_pos hb])
        exact rtake_early s hs k t (by rw [Int.toNat_natCast]; exact ht) 31 (.inr (.inr (.inl ⟨⟨by omega, by omega, by omega, hb⟩, rfl⟩))) w
      · have hK : kindE t = none := by unfold kindE; rw [if_neg h0, if_neg hb]
        by_cases h5 : t.size < 5
        · obtain ⟨rfl, rfl, rfl⟩ := err 2 (by unfold tryE; rw [hK]; unfold headE; dsimp only; rw [if_pos h5])
          exact rtake_early s hs k t (by rw [Int.toNat_natCast]; exact ht) 30 (.inr (.inr (.inr ⟨⟨by omega, by omega, by omega, by omega, by omega, h5⟩, rfl⟩))) w
        · obtain ⟨m, hm⟩ : ∃ m : Nat, n35 t = m := ⟨(n35 t).toNat, by have := (num2_bd (t.extract 3 5)).1; unfold n35; omega⟩
          by_cases h512 : 512 < m
          · obtain ⟨rfl, rfl, rfl⟩ := err 4 (by unfold tryE; rw [hK]; unfold headE; dsimp only; rw [if_neg h5, hm, if_pos (by omega)])
            exact rtake_late s hs k hk t ht (by omega) (by omega) (by omega) m hm 32 (.inl ⟨h512, rfl⟩) w
          · have hH : headE t = none := by unfold headE; rw [if_neg h5, hm, if_neg (by omega)]
            by_cases hl : t.size < 5 + m
            · obtain ⟨rfl, rfl, rfl⟩ := err 2 (by unfold tryE; rw [hK, hH]; unfold dataE; dsimp only; rw [hm, if_pos (by omega)])
              exact rtake_late s hs k hk t ht (by omega) (by omega) (by omega) m hm 30 (.inr ⟨⟨by omega, hl⟩, rfl⟩) w
            · refine rtake_last s hs k hk t ht (by omega) (by omega) (by omega) m hm (by omega) (by omega) (frOf t) rfl _ rfl f n q ?_ w
              cases hR : rightF (frOf t) with
              | false =>
                obtain ⟨rfl, rfl, rfl⟩ := err 0 (by unfold tryE; rw [hK, hH]; unfold dataE; dsimp only; rw [hm, if_neg (by omega), hR]; rfl)
                rfl
              | true =>
                have := TakeA_none hk (by rw [ht]; unfold tryE; rw [hK, hH]; unfold dataE; dsimp only; rw [hm, if_neg (by omega), hR]; rfl)
                rw [ht, hm] at this
                rw [← hA, this]; rfl
end Go.Proofs.YtfedhhndkeakhaaDoor
