/- The walks of the wire's Bytes and Encode, and of the document's Bytes, Right and Encode. -/
import Derived.Test.YtfedhhndkeakhaaDoorWireB
namespace Go.Proofs.YtfedhhndkeakhaaDoor
open Go.RowKit
attribute [local go_sem ↓] Go.wp_at_zero Go.wp_at_succ

theorem bytesA_ok {n : Int} (h : ¬ (n < 0 ∨ 65535 < n)) : bytesA n = (two n, 0) := if_neg h
theorem bytesA_bad {n : Int} (h : n < 0 ∨ 65535 < n) : bytesA n = (⟨#[]⟩, 2) := if_pos h

set_option maxRecDepth 100000 in
theorem bytes_any (n : Int) (s : ByteArray) (q : Int) (hA : bytesA n = (s, q)) (w : World) (e : Nat → Addr) (he : Env w e) :
    Calls Tryd.prog 17 #[.int .i64 n] w fun r w' => r = .returned (.tuple #[.string s, .int .i64 q]) ∧ Keeps [] w w' := by
  by_cases h : n < 0 ∨ 65535 < n
  · rw [bytesA_bad h] at hA
    cases hA
    have hE := (he.keep ((Keeps.refl [] w).alloc (.cells #[.int .i64 n] 3)))
    have HE := Lib.hid hE
    have c1 := hE.cell 1 (by simp)
    rcases (show n < 0 ∨ (¬ n < 0 ∧ 65535 < n) by omega) with h1 | ⟨h1, h2⟩
    all_goals
      clear h he hE
      go_enter Tryd.func17, Tryd.ntmps17
      go_wp2_with (fail)
      refine (told_any (some 1) e (by simp) _ HE.out).mono ?_
      rintro r w1 ⟨rfl, rfl⟩
      go_wp2
      go_ret2
      exact ⟨rfl, (Keeps.refl [] w).alloc _⟩
  · rw [bytesA_ok h] at hA
    cases hA
    have h1 : ¬ n < 0 := by omega
    have h2 : ¬ 65535 < n := by omega
    clear h he
    go_enter Tryd.func17, Tryd.ntmps17
    go_wp2_with (fail)
    refine (bytes1_any w.heap.size n (by omega) (by omega) _ ((Blk.new w 3 #[.int .i64 n]).cell 0)).mono ?_
    rintro r w1 ⟨rfl, hk⟩
    have HK := Lib.hid (((Keeps.refl [] w).alloc (.cells #[.int .i64 n] 3)).trans hk)
    clear hk
    go_wp2
    go_ret2
    exact ⟨rfl, HK.out⟩

set_option maxRecDepth 100000 in
theorem rbytes_any (n : Int) (s : ByteArray) (q : Int) (hA : bytesA n = (s, q)) (w : World) :
    Calls Tryd.prog 18 #[.int .i64 n] w fun r w' => r = .returned (.tuple #[.string s, .int .i64 q]) ∧ Keeps [] w w' := by
  by_cases h : n < 0 ∨ 65535 < n
  · rw [bytesA_bad h] at hA
    cases hA
    rcases (show n < 0 ∨ (¬ n < 0 ∧ 65535 < n) by omega) with h1 | ⟨h1, h2⟩
    all_goals
      clear h
      go_enter Tryd.func18, Tryd.ntmps18
      go_wp2
      go_ret2
      exact ⟨rfl, Keeps.refl [] w⟩
  · rw [bytesA_ok h] at hA
    cases hA
    have h1 : ¬ n < 0 := by omega
    have h2 : ¬ 65535 < n := by omega
    have hcv := conv2 (n / 256) (n % 256) ⟨by omega, by omega⟩ ⟨by omega, by omega⟩ w
    clear h
    go_enter Tryd.func18, Tryd.ntmps18
    go_wp2
    go_ret2
    exact ⟨rfl, (Keeps.refl [] w).alloc _⟩

theorem right_bd {f : Fr} (h : rightF f = true) : 1 ≤ f.kind ∧ f.kind ≤ 8 ∧ 0 ≤ f.stream ∧ f.stream ≤ 65535 ∧ f.data.size ≤ 512 := by
  unfold rightF at h
  cases hs : spanOf f.kind with
  | none => rw [hs] at h; cases h
  | some x =>
    obtain ⟨lo, hi⟩ := x
    rw [hs] at h
    simp only [Bool.and_eq_true, decide_eq_true_eq] at h
    obtain ⟨⟨⟨⟨h1, h2⟩, h3⟩, h4⟩, _⟩ := h
    have hk : 1 ≤ f.kind ∧ f.kind ≤ 8 ∧ hi ≤ 512 := by
      unfold spanOf at hs
      repeat' split at hs
      all_goals first | (cases hs; omega) | cases hs
    exact ⟨hk.1, hk.2.1, h3, h4, by omega⟩

theorem conv1 (X : Int) (hx : 0 ≤ X ∧ X ≤ 255) (w : World) :
    (convert 50 9 (.slice (some ⟨w.heap.size, 0, none⟩) 1 1)).run Tryd.prog (w.alloc (.cells #[.int .u8 X] 5)) = .ok (.string ⟨#[UInt8.ofNat X.toNat]⟩) (w.alloc (.cells #[.int .u8 X] 5)) := by
  refine run_convert_bytes_back (P := Tryd.prog) (w.alloc (.cells #[.int .u8 X] 5)) 50 9 5 ⟨w.heap.size, 0, none⟩ 1 [UInt8.ofNat X.toNat] Tryd.underlying50 Tryd.underlying5 Tryd.underlying9 (fun j hj => ?_)
  have hc := (Blk.new w 5 #[.int .u8 X]).cell j
  obtain rfl : j = 0 := by simpa using hj
  have e : ((UInt8.ofNat X.toNat).toNat : Int) = X := by simp; omega
  have e2 : [UInt8.ofNat X.toNat][0] = UInt8.ofNat X.toNat := rfl
  rw [e2, e]; exact hc

set_option maxRecDepth 100000 in
set_option maxHeartbeats 1000000 in
theorem encode_any (f : Fr) (hd : f.data.size ≤ maxLen) (s : ByteArray) (q : Int) (hA : encA f = (s, q)) (w : World) (e : Nat → Addr) (he : Env w e) :
    Calls Tryd.prog 13 #[f.v] w fun r w' => r = .returned (.tuple #[.string s, .int .i64 q]) ∧ Keeps [] w w' := by
  unfold Fr.v
  have HD := Lib.hid hd
  have HE := Lib.hid he
  have hB := Blk.new w 23 f.cells
  have HB := Lib.hid hB
  have hk := (Keeps.refl [] w).alloc (.cells f.cells 23)
  have HK := Lib.hid hk
  clear hd he hB hk
  unfold encA at hA
  cases hr : rightF f with
  | false =>
    rw [hr] at hA
    cases hA
    have HR := Lib.hid hr
    clear hr
    go_enter Tryd.func13, Tryd.ntmps13
    go_wp2_with (fail)
    refine (right_any f HD.out false HR.out _).mono ?_
    rintro r w1 ⟨rfl, hk⟩
    have HK1 := Lib.hid (HK.out.trans hk)
    have hE := HE.out.keep HK1.out
    have HE1 := Lib.hid hE
    have c0 := hE.cell 0 (by simp)
    clear hk hE
    go_wp2_with (fail)
    refine (told_any (some 0) e (by simp) _ HE1.out).mono ?_
    rintro r w2 ⟨rfl, rfl⟩
    go_wp2
    go_ret2
    exact ⟨rfl, HK1.out⟩
  | true =>
    rw [hr] at hA
    cases hA
    have HR := Lib.hid hr
    obtain ⟨k1, k2, s1, s2, d1⟩ := right_bd hr
    have HBA := Lib.hid (bytesA_ok (n := f.stream) (by omega))
    have HBB := Lib.hid (bytesA_ok (n := (f.data.size : Int)) (by omega))
    clear hr
    go_enter Tryd.func13, Tryd.ntmps13
    go_wp2_with (fail)
    refine (right_any f HD.out true HR.out _).mono ?_
    rintro r w1 ⟨rfl, hk⟩
    have HK1 := Lib.hid (HK.out.trans hk)
    have HE1 := Lib.hid (HE.out.keep HK1.out)
    have hB := HB.out.keeps hk (by simp)
    have c0 := hB.cell 0
    have c1 := hB.cell 1
    have c2 := hB.cell 2
    simp only [Fr.cells, List.getElem?_toArray, List.getElem?_cons_zero, List.getElem?_cons_succ] at c0 c1 c2
    have HB1 := Lib.hid hB
    clear hk hB
    go_wp2_with (fail)
    refine (bytes_any f.stream _ _ HBA.out _ e HE1.out).mono ?_
    rintro r w2 ⟨rfl, hk⟩
    have HK2 := Lib.hid (HK1.out.trans hk)
    have HE2 := Lib.hid (HE1.out.keep hk)
    have hB := HB1.out.keeps hk (by simp)
    have c0 := hB.cell 0
    have c1 := hB.cell 1
    have c2 := hB.cell 2
    simp only [Fr.cells, List.getElem?_toArray, List.getElem?_cons_zero, List.getElem?_cons_succ] at c0 c1 c2
    have HB2 := Lib.hid hB
    clear hk hB
    go_wp2_with (fail)
    refine (bytes_any f.data.size _ _ HBB.out _ e HE2.out).mono ?_
    rintro r w3 ⟨rfl, hk⟩
    have HK3 := Lib.hid (HK2.out.trans hk)
    have hB := HB2.out.keeps hk (by simp)
    have c0 := hB.cell 0
    have c1 := hB.cell 1
    have c2 := hB.cell 2
    simp only [Fr.cells, List.getElem?_toArray, List.getElem?_cons_zero, List.getElem?_cons_succ] at c0 c1 c2
    have hcv := conv1 f.kind ⟨by omega, by omega⟩ w3
    have hlt : w.heap.size < w3.heap.size := hB.lt
    have hz : ∀ n, (two n).size = 2 := fun _ => rfl
    clear hk hB
    go_wp2
    go_ret2
    exact ⟨rfl, HK3.out.alloc _⟩

set_option maxHeartbeats 4000000 in
theorem rright_lit (f : Fr) (hd : f.data.size ≤ maxLen) (lo hi : Int) (ow : Bool) (hsp : spanOf f.kind = some (lo, hi)) (ho : ownK f.kind = ow)
    (R : Bool) (hR : rightF f = R) (w : World) :
    Calls Tryd.prog 20 #[f.v] w fun r w' => r = .returned (.bool R) ∧ Keeps [] w w' := by
  obtain ⟨k, st, d⟩ := f
  unfold Fr.v
  dsimp only at hd hsp ho ⊢
  have HR : Hid (R = (decide (lo ≤ (d.size : Int)) && decide ((d.size : Int) ≤ hi) && decide (0 ≤ st) && decide (st ≤ 65535) && (ow == (st == 0)))) := Lib.hid (by
    rw [← hR]; unfold rightF; dsimp only; rw [hsp, ho])
  clear hR
  unfold maxLen at hd
  have hk : k = 1 ∨ k = 2 ∨ k = 3 ∨ k = 4 ∨ k = 5 ∨ k = 6 ∨ k = 7 ∨ k = 8 := by
    unfold spanOf at hsp
    repeat' split at hsp
    all_goals first | omega | cases hsp
  rcases hk with rfl | rfl | rfl | rfl | rfl | rfl | rfl | rfl
  all_goals
    cases hsp
    cases ho
    go_enter Tryd.func20, Tryd.ntmps20
    go_wp2
    all_goals
      go_ret
      refine ⟨ret_bool ?_, (Keeps.refl [] w).alloc _⟩
      rw [HR.out, Bool.eq_iff_iff]
      simp only [Bool.and_eq_true, decide_eq_true_eq, beq_iff_eq, Bool.not_eq_true', beq_eq_false_iff_ne, ne_eq, Bool.false_eq_true, false_iff]
      first
        | omega
        | (simp only [show ownK 1 = true from rfl, show ownK 2 = true from rfl, show ownK 3 = false from rfl, show ownK 4 = false from rfl, show ownK 5 = false from rfl, show ownK 6 = false from rfl, show ownK 7 = false from rfl, show ownK 8 = true from rfl, @eq_comm Bool true, @eq_comm Bool false, beq_iff_eq, beq_eq_false_iff_ne, ne_eq]; omega)
        | (simp [show ownK 6 = false from rfl, show ownK 7 = false from rfl]; done)
        | (simp only [← ByteArray.size_eq_zero_iff, show ownK 6 = false from rfl, show ownK 7 = false from rfl, @eq_comm Bool false, beq_eq_false_iff_ne, ne_eq]; omega)

theorem rright_any (f : Fr) (hd : f.data.size ≤ maxLen) (R : Bool) (hR : rightF f = R) (w : World) :
    Calls Tryd.prog 20 #[f.v] w fun r w' => r = .returned (.bool R) ∧ Keeps [] w w' := by
  cases hs : spanOf f.kind with
  | some x => exact rright_lit f hd x.1 x.2 _ hs rfl R hR w
  | none =>
    obtain rfl : R = false := by rw [← hR]; unfold rightF; rw [hs]
    obtain ⟨k, st, d⟩ := f
    unfold Fr.v
    dsimp only at hs hd ⊢
    have h1 : (k == 1) = false := by cases h : k == 1 with | false => rfl | true => obtain rfl : k = 1 := by simpa using h
                                                                                    cases hs
    have h2 : (k == 2) = false := by cases h : k == 2 with | false => rfl | true => obtain rfl : k = 2 := by simpa using h
                                                                                    cases hs
    have h3 : (k == 3) = false := by cases h : k == 3 with | false => rfl | true => obtain rfl : k = 3 := by simpa using h
                                                                                    cases hs
    have h4 : (k == 4) = false := by cases h : k == 4 with | false => rfl | true => obtain rfl : k = 4 := by simpa using h
                                                                                    cases hs
    have h5 : (k == 5) = false := by cases h : k == 5 with | false => rfl | true => obtain rfl : k = 5 := by simpa using h
                                                                                    cases hs
    have h6 : (k == 6) = false := by cases h : k == 6 with | false => rfl | true => obtain rfl : k = 6 := by simpa using h
                                                                                    cases hs
    have h7 : (k == 7) = false := by cases h : k == 7 with | false => rfl | true => obtain rfl : k = 7 := by simpa using h
                                                                                    cases hs
    have h8 : (k == 8) = false := by cases h : k == 8 with | false => rfl | true => obtain rfl : k = 8 := by simpa using h
                                                                                    cases hs
    clear hs hd hR
    go_enter Tryd.func20, Tryd.ntmps20
    go_wp2
    go_ret
    exact ⟨rfl, (Keeps.refl [] w).alloc _⟩

set_option maxRecDepth 100000 in
set_option maxHeartbeats 1000000 in
theorem rencode_any (f : Fr) (hd : f.data.size ≤ maxLen) (s : ByteArray) (q : Int) (hA : encA f = (s, q)) (w : World) :
    Calls Tryd.prog 14 #[f.v] w fun r w' => r = .returned (.tuple #[.string s, .int .i64 q]) ∧ Keeps [] w w' := by
  unfold Fr.v
  have HD := Lib.hid hd
  have hB := Blk.new w 23 f.cells
  have HB := Lib.hid hB
  have hk := (Keeps.refl [] w).alloc (.cells f.cells 23)
  have HK := Lib.hid hk
  clear hd hB hk
  unfold encA at hA
  cases hr : rightF f with
  | false =>
    rw [hr] at hA
    cases hA
    have HR := Lib.hid hr
    clear hr
    go_enter Tryd.func14, Tryd.ntmps14
    go_wp2_with (fail)
    refine (rright_any f HD.out false HR.out _).mono ?_
    rintro r w1 ⟨rfl, hk⟩
    have HK1 := Lib.hid (HK.out.trans hk)
    clear hk
    go_wp2
    go_ret2
    exact ⟨rfl, HK1.out⟩
  | true =>
    rw [hr] at hA
    cases hA
    have HR := Lib.hid hr
    obtain ⟨k1, k2, s1, s2, d1⟩ := right_bd hr
    have HBA := Lib.hid (bytesA_ok (n := f.stream) (by omega))
    have HBB := Lib.hid (bytesA_ok (n := (f.data.size : Int)) (by omega))
    clear hr
    go_enter Tryd.func14, Tryd.ntmps14
    go_wp2_with (fail)
    refine (rright_any f HD.out true HR.out _).mono ?_
    rintro r w1 ⟨rfl, hk⟩
    have HK1 := Lib.hid (HK.out.trans hk)
    have hB := HB.out.keeps hk (by simp)
    have c0 := hB.cell 0
    have c1 := hB.cell 1
    have c2 := hB.cell 2
    simp only [Fr.cells, List.getElem?_toArray, List.getElem?_cons_zero, List.getElem?_cons_succ] at c0 c1 c2
    have HB1 := Lib.hid hB
    clear hk hB
    go_wp2_with (fail)
    refine (rbytes_any f.stream _ _ HBA.out _).mono ?_
    rintro r w2 ⟨rfl, hk⟩
    have HK2 := Lib.hid (HK1.out.trans hk)
    have hB := HB1.out.keeps hk (by simp)
    have c0 := hB.cell 0
    have c1 := hB.cell 1
    have c2 := hB.cell 2
    simp only [Fr.cells, List.getElem?_toArray, List.getElem?_cons_zero, List.getElem?_cons_succ] at c0 c1 c2
    have HB2 := Lib.hid hB
    clear hk hB
    go_wp2_with (fail)
    refine (rbytes_any f.data.size _ _ HBB.out _).mono ?_
    rintro r w3 ⟨rfl, hk⟩
    have HK3 := Lib.hid (HK2.out.trans hk)
    have hB := HB2.out.keeps hk (by simp)
    have c0 := hB.cell 0
    have c1 := hB.cell 1
    have c2 := hB.cell 2
    simp only [Fr.cells, List.getElem?_toArray, List.getElem?_cons_zero, List.getElem?_cons_succ] at c0 c1 c2
    have hcv := conv1 f.kind ⟨by omega, by omega⟩ w3
    have hlt : w.heap.size < w3.heap.size := hB.lt
    have hz : ∀ n, (two n).size = 2 := fun _ => rfl
    clear hk hB
    go_wp2
    go_ret2
    exact ⟨rfl, HK3.out.alloc _⟩
end Go.Proofs.YtfedhhndkeakhaaDoor
