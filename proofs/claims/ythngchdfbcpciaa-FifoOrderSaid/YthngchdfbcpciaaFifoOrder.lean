/- FifoOrder: what is popped, one after the other, and what is left, are all bytes that were taken, in order: for every capacity and list of calls. No condition. -/
import Derived.Test.YthngchdfbcpciaaLawOps
namespace Go.Proofs.Ythngchdfbcpciaa.fifoOrder
open Go.RowKit
open Go.ChangeShapes Go.WideShapes Go.ChangeAt

theorem app_toList (a b : ByteArray) : (a ++ b).data.toList = a.data.toList ++ b.data.toList := by simp
theorem ba_ext {a b : ByteArray} (h : a.data.toList = b.data.toList) : a = b := by
  cases a; cases b; simp at h; subst h; rfl
theorem fi_len {w : World} {b bb cap : Nat} {q : List UInt8} (h : Fi w b bb cap q) : q.length ≤ cap := by
  obtain ⟨fr, A, h⟩ := h; exact h.len

set_option maxRecDepth 100000 in
set_option maxHeartbeats 1000000 in
theorem walk_bad (n : Int) (a : Option Addr) (c : Nat) (xs : List Op1) (w : World) (h : n < 1 ∨ 4096 < n) (hx : OpsArg w a xs) :
    Calls Try.prog 4 #[.int .i64 n, .slice a xs.length c] w fun e w' => e = .returned (.bool true) ∧ Below w.heap.size w w' := by
  have HX := Lib.hid hx
  clear hx
  go_enter Try.func4, Try.ntmps4
  go_wp2_with (fail)
  refine (shown_any _).mono ?_
  rintro e w1 ⟨rfl, hk1⟩
  have HK1 := Lib.hid hk1
  clear hk1
  go_wp2_with (fail)
  refine (cutops_in _ a c xs (HX.out.keeps HK1.out (by simp))).mono ?_
  rintro e w2 ⟨a', c', rfl, -, hk2⟩
  have HK2 := Lib.hid (HK1.out.trans hk2)
  clear hk2
  go_wp2_with (fail)
  refine (new_bad n _ h).mono ?_
  rintro e w' ⟨rfl, rfl⟩
  go_wp2_with (fail)
  go_ret
  exact ⟨rfl, HK2.out.below (Nat.le_refl _) (by simp)⟩

set_option maxRecDepth 100000 in
set_option maxHeartbeats 8000000 in
theorem walk_good (cap : Nat) (a : Option Addr) (c : Nat) (xs : List Op1) (w : World) (hc1 : 1 ≤ cap) (hc2 : cap ≤ 4096) (hx : OpsArg w a xs) :
    Calls Try.prog 4 #[.int .i64 cap, .slice a xs.length c] w fun e w' => e = .returned (.bool true) ∧ Below w.heap.size w w' := by
  have HX := Lib.hid hx
  have hyl := cutOps_length xs
  have HYS := Lib.hid (cutOps_size xs)
  clear hx
  go_enter Try.func4, Try.ntmps4
  go_wp2_with (fail)
  refine (shown_any _).mono ?_
  rintro e w1 ⟨rfl, hk1⟩
  have HK1 := Lib.hid hk1
  clear hk1
  go_wp2_with (fail)
  refine (cutops_in _ a c xs (HX.out.keeps HK1.out (by simp))).mono ?_
  rintro e w2 ⟨a', c', rfl, hin, hk2⟩
  generalize cutOps xs = ys at hin hyl HYS ⊢
  have HK2 := Lib.hid (HK1.out.trans hk2)
  have HIN := Lib.hid hin
  clear hk2 hin
  go_wp2_with (fail)
  refine (new_ok cap _ hc1 hc2).mono ?_
  rintro e w3 ⟨rfl, hf3, hk3, hz3⟩
  have HF3 := Lib.hid hf3
  have HK3 := Lib.hid (HK2.out.trans hk3)
  have HIN3 := Lib.hid (HIN.out.keeps hk3 (by simp))
  have hws : w.heap.size ≤ w2.heap.size := HK2.out.size
  clear hf3 hk3
  go_wp2_with (fail)
  go_loopw [8, 9, 10] (fun vi vo i wr => ∃ (k : Nat) (q : List UInt8) (I O : ByteArray), vi = .string I ∧ vo = .string O ∧ i = .int .i64 k ∧ k ≤ ys.length ∧ I.size ≤ 100 * k ∧ O.size ≤ 4096 * k ∧ Hid (I.data.toList = O.data.toList ++ q) ∧ Hid (Fi wr (w2.heap.size + 1) w2.heap.size cap q) ∧ Hid (Keeps [] w wr) ∧ Hid (OpsIn wr w2.heap.size a' ys)) (fun _ _ i _ => ys.length - (intOf i).toNat)
  case atStart => exact ⟨0, [], ⟨#[]⟩, ⟨#[]⟩, rfl, rfl, rfl, Nat.zero_le _, Nat.zero_le _, Nat.zero_le _, rfl, HF3, HK3, HIN3⟩
  case round =>
    obtain ⟨k, q, I, O, rfl, rfl, rfl, hk, hI, hO, HIO, HF, HK, HI⟩ := hrel
    by_cases hlt : k < ys.length
    · obtain ⟨g, x, rfl, hyx, hx0, hx1, hx2⟩ := HI.out.at_ hlt
      have hsz : x.s.size ≤ 100 := HYS.out x (List.mem_of_getElem? hyx)
      have hql := fi_len HF.out
      have hg' : g < wr.heap.size ∧ g < w2.heap.size := by
        obtain ⟨g2, e2, h2, h3, _⟩ := HI.out (by omega)
        obtain rfl : g = g2 := by simpa using e2
        exact ⟨h3, h2⟩
      obtain ⟨hg1, hg2⟩ := hg'
      clear hyx
      by_cases h0 : x.kind = 0
      · rw [h0] at hx0
        go_wp2_with (fail)
        refine (do_agg 0 x.n x.s _ _ cap q _ HF.out (by omega)).mono ?_
        rintro e w5 ⟨n', t', hnt, rfl, hf5, hk5⟩
        · obtain ⟨m, hm⟩ : ∃ m, min x.s.size (cap - q.length) = m := ⟨_, rfl⟩
          have hnt' : n' = (m : Int) ∧ t' = ⟨#[]⟩ := by simpa [doAns, hm] using hnt
          obtain ⟨rfl, rfl⟩ := hnt'
          have hdq : doQ cap q ⟨0, x.n, x.s⟩ = q ++ x.s.data.toList.take m := by simp [doQ, hm]
          rw [hdq] at hf5
          have HF5 := Lib.hid hf5
          have HK5 := Lib.hid (HK.out.trans' hk5 (by simp; omega))
          have HI5 := Lib.hid (HI.out.keeps hk5 (by simp))
          rw [← hk5.cell (p := ⟨g, k * 3, none⟩) hg1 (by simp; omega)] at hx0
          rw [← hk5.cell (p := ⟨g, k * 3 + 1, none⟩) hg1 (by simp; omega)] at hx1
          rw [← hk5.cell (p := ⟨g, k * 3 + 2, none⟩) hg1 (by simp; omega)] at hx2
          have hql5 := fi_len HF5.out
          obtain ⟨T, hT⟩ : ∃ T, x.s.extract 0 m = T := ⟨_, rfl⟩
          have hsl : ∀ W : World, (Instr.slice 9 (.string x.s) none (some (.int .i64 (m : Int))) none).run Try.prog W = .ok (.string T) W := fun W => by
            have := run_slice_string_h (P := Try.prog) (w := W) (t := 9) (s := x.s) Try.underlying9 .i64 (m : Int) (by omega) (by omega)
            rw [← hT]; simpa using this
          have hTl : T.data.toList = x.s.data.toList.take m := by rw [← hT]; simp [ByteArray.data_extract]
          have hTz : T.size ≤ 100 := by rw [← hT]; simp; omega
          have HIO2 : Hid ((I ++ T).data.toList = O.data.toList ++ (q ++ x.s.data.toList.take m)) := by
            show _ = _
            rw [app_toList, HIO.out, hTl, List.append_assoc]
          have j1 : m ≤ x.s.size := by omega
          have j2 : (m : Int) ≤ (x.s.size : Int) := by omega
          clear hT hTl hdq hm
          obtain ⟨L5, hL5⟩ : ∃ L5, (q ++ x.s.data.toList.take m).length = L5 := ⟨_, rfl⟩
          obtain ⟨R5, hR5⟩ : ∃ R5, cap - (q ++ x.s.data.toList.take m).length = R5 := ⟨_, rfl⟩
          have hb5 : ((L5 : Int) + (R5 : Int) != (cap : Int)) = false := by simp; omega
          have i5 : L5 ≤ 4096 := by omega
          have i6 : R5 ≤ 4096 := by omega
          have HL5 := Lib.hid hL5
          have HR5 := Lib.hid hR5
          clear hL5 hR5 hql5 hf5 hk5 hnt
          go_wp2_with (first | (go_at_call 12; refine (len_eq _ _ cap L5 _ HL5.out _ HF5.out).mono ?_; rintro e w' ⟨rfl, rfl⟩) | (go_at_call 17; refine (room_eq _ _ cap R5 _ HR5.out _ HF5.out).mono ?_; rintro e w' ⟨rfl, n8, rfl⟩))
          go_roundw
          case rel => exact ⟨k + 1, _, I ++ T, O, rfl, rfl, by go_num, by omega, by rw [ByteArray.size_append]; omega, by omega, HIO2, HF5.out.keeps ((Keeps.refl [] _).drewN n8) (by simp) (by simp), HK5.out.drewN n8, HI5.out.keeps ((Keeps.refl [] _).drewN n8) (by simp)⟩
          case measure => simp [intOf]; omega
      by_cases h1 : x.kind = 1
      · rw [h1] at hx0
        clear h0
        go_wp2_with (fail)
        refine (do_agg 1 x.n x.s _ _ cap q _ HF.out (by omega)).mono ?_
        rintro e w5 ⟨n', t', hnt, rfl, hf5, hk5⟩
        · obtain ⟨T, hT⟩ : ∃ T, str (q.take x.n.toNat) = T := ⟨_, rfl⟩
          have hnt' : n' = 0 ∧ t' = T := by simpa [doAns, hT] using hnt
          obtain ⟨rfl, rfl⟩ := hnt'
          have hdq : doQ cap q ⟨1, x.n, x.s⟩ = q.drop x.n.toNat := by simp [doQ]
          rw [hdq] at hf5
          have HF5 := Lib.hid hf5
          have HK5 := Lib.hid (HK.out.trans' hk5 (by simp; omega))
          have HI5 := Lib.hid (HI.out.keeps hk5 (by simp))
          rw [← hk5.cell (p := ⟨g, k * 3, none⟩) hg1 (by simp; omega)] at hx0
          rw [← hk5.cell (p := ⟨g, k * 3 + 1, none⟩) hg1 (by simp; omega)] at hx1
          rw [← hk5.cell (p := ⟨g, k * 3 + 2, none⟩) hg1 (by simp; omega)] at hx2
          have hql5 := fi_len HF5.out
          have hTl : t'.data.toList = q.take x.n.toNat := by rw [← hT, str_toList]
          have hTz : t'.size ≤ 4096 := by rw [← hT, str_size, List.length_take]; omega
          have HIO2 : Hid (I.data.toList = (O ++ t').data.toList ++ q.drop x.n.toNat) := by
            show _ = _
            rw [app_toList, HIO.out, hTl, List.append_assoc, List.take_append_drop]
          clear hT hTl hdq
          obtain ⟨L5, hL5⟩ : ∃ L5, (q.drop x.n.toNat).length = L5 := ⟨_, rfl⟩
          obtain ⟨R5, hR5⟩ : ∃ R5, cap - (q.drop x.n.toNat).length = R5 := ⟨_, rfl⟩
          have hb5 : ((L5 : Int) + (R5 : Int) != (cap : Int)) = false := by simp; omega
          have i5 : L5 ≤ 4096 := by omega
          have i6 : R5 ≤ 4096 := by omega
          have HL5 := Lib.hid hL5
          have HR5 := Lib.hid hR5
          clear hL5 hR5 hql5 hf5 hk5 hnt
          go_wp2_with (first | (go_at_call 12; refine (len_eq _ _ cap L5 _ HL5.out _ HF5.out).mono ?_; rintro e w' ⟨rfl, rfl⟩) | (go_at_call 17; refine (room_eq _ _ cap R5 _ HR5.out _ HF5.out).mono ?_; rintro e w' ⟨rfl, n8, rfl⟩))
          go_roundw
          case rel => exact ⟨k + 1, _, I, O ++ t', rfl, rfl, by go_num, by omega, by omega, by rw [ByteArray.size_append]; omega, HIO2, HF5.out.keeps ((Keeps.refl [] _).drewN n8) (by simp) (by simp), HK5.out.drewN n8, HI5.out.keeps ((Keeps.refl [] _).drewN n8) (by simp)⟩
          case measure => simp [intOf]; omega
      by_cases h2 : x.kind = 2
      · rw [h2] at hx0
        clear h0 h1
        go_wp2_with (fail)
        refine (do_agg 2 x.n x.s _ _ cap q _ HF.out (by omega)).mono ?_
        rintro e w5 ⟨n', t', hnt, rfl, hf5, hk5⟩
        · have hdq : doQ cap q ⟨2, x.n, x.s⟩ = q := by simp [doQ]
          rw [hdq] at hf5
          have HF5 := Lib.hid hf5
          have HK5 := Lib.hid (HK.out.trans' hk5 (by simp; omega))
          have HI5 := Lib.hid (HI.out.keeps hk5 (by simp))
          rw [← hk5.cell (p := ⟨g, k * 3, none⟩) hg1 (by simp; omega)] at hx0
          rw [← hk5.cell (p := ⟨g, k * 3 + 1, none⟩) hg1 (by simp; omega)] at hx1
          rw [← hk5.cell (p := ⟨g, k * 3 + 2, none⟩) hg1 (by simp; omega)] at hx2
          have hql5 := fi_len HF5.out
          have HIO2 := HIO
          clear hdq
          obtain ⟨L5, hL5⟩ : ∃ L5, (q).length = L5 := ⟨_, rfl⟩
          obtain ⟨R5, hR5⟩ : ∃ R5, cap - (q).length = R5 := ⟨_, rfl⟩
          have hb5 : ((L5 : Int) + (R5 : Int) != (cap : Int)) = false := by simp; omega
          have i5 : L5 ≤ 4096 := by omega
          have i6 : R5 ≤ 4096 := by omega
          have HL5 := Lib.hid hL5
          have HR5 := Lib.hid hR5
          clear hL5 hR5 hql5 hf5 hk5 hnt
          go_wp2_with (first | (go_at_call 12; refine (len_eq _ _ cap L5 _ HL5.out _ HF5.out).mono ?_; rintro e w' ⟨rfl, rfl⟩) | (go_at_call 17; refine (room_eq _ _ cap R5 _ HR5.out _ HF5.out).mono ?_; rintro e w' ⟨rfl, n8, rfl⟩))
          go_roundw
          case rel => exact ⟨k + 1, _, I, O, rfl, rfl, by go_num, by omega, by omega, by omega, HIO2, HF5.out.keeps ((Keeps.refl [] _).drewN n8) (by simp) (by simp), HK5.out.drewN n8, HI5.out.keeps ((Keeps.refl [] _).drewN n8) (by simp)⟩
          case measure => simp [intOf]; omega
      by_cases h3 : x.kind = 3
      · rw [h3] at hx0
        clear h0 h1 h2
        obtain ⟨T, hT⟩ : ∃ T, str (q.take (5000 : Int).toNat) = T := ⟨_, rfl⟩
        have hTl : T.data.toList = q := by
          rw [← hT, str_toList]; exact List.take_of_length_le (by have : (5000 : Int).toNat = 5000 := rfl
                                                                  omega)
        have hTz : T.size ≤ 4096 := by
          have : T.size = q.length := by rw [← hTl]; simp
          omega
        have HT := Lib.hid hT
        clear hT
        go_wp2_with (fail)
        refine (peek_eq _ _ cap q 5000 T HT.out _ HF.out).mono ?_
        rintro e w4 ⟨rfl, hk4⟩
        have HF4 := Lib.hid (HF.out.keeps hk4 (by simp) (by simp))
        have HK4 := Lib.hid (HK.out.trans hk4)
        have HI4 := Lib.hid (HI.out.keeps hk4 (by simp))
        have hg14 : g < w4.heap.size := by have := hk4.size; omega
        rw [← hk4.cell (p := ⟨g, k * 3, none⟩) hg1 (by simp)] at hx0
        rw [← hk4.cell (p := ⟨g, k * 3 + 1, none⟩) hg1 (by simp)] at hx1
        rw [← hk4.cell (p := ⟨g, k * 3 + 2, none⟩) hg1 (by simp)] at hx2
        clear hk4
        go_wp2_with (fail)
        refine (do_agg 3 x.n x.s _ _ cap q _ HF4.out (by omega)).mono ?_
        rintro e w5 ⟨n', t', hnt, rfl, hf5, hk5⟩
        · have hdq : doQ cap q ⟨3, x.n, x.s⟩ = [] := by simp [doQ]
          rw [hdq] at hf5
          have HF5 := Lib.hid hf5
          have HK5 := Lib.hid (HK4.out.trans' hk5 (by simp; omega))
          have HI5 := Lib.hid (HI4.out.keeps hk5 (by simp))
          rw [← hk5.cell (p := ⟨g, k * 3, none⟩) hg14 (by simp; omega)] at hx0
          rw [← hk5.cell (p := ⟨g, k * 3 + 1, none⟩) hg14 (by simp; omega)] at hx1
          rw [← hk5.cell (p := ⟨g, k * 3 + 2, none⟩) hg14 (by simp; omega)] at hx2
          have hql5 := fi_len HF5.out
          have HIO2 : Hid (I.data.toList = (O ++ T).data.toList ++ []) := by
            show _ = _
            rw [app_toList, HIO.out, hTl, List.append_nil]
          clear hdq hTl
          obtain ⟨L5, hL5⟩ : ∃ L5, (([] : List UInt8)).length = L5 := ⟨_, rfl⟩
          obtain ⟨R5, hR5⟩ : ∃ R5, cap - (([] : List UInt8)).length = R5 := ⟨_, rfl⟩
          have hb5 : ((L5 : Int) + (R5 : Int) != (cap : Int)) = false := by simp; omega
          have i5 : L5 ≤ 4096 := by omega
          have i6 : R5 ≤ 4096 := by omega
          have HL5 := Lib.hid hL5
          have HR5 := Lib.hid hR5
          clear hL5 hR5 hql5 hf5 hk5 hnt
          go_wp2_with (first | (go_at_call 12; refine (len_eq _ _ cap L5 _ HL5.out _ HF5.out).mono ?_; rintro e w' ⟨rfl, rfl⟩) | (go_at_call 17; refine (room_eq _ _ cap R5 _ HR5.out _ HF5.out).mono ?_; rintro e w' ⟨rfl, n8, rfl⟩))
          go_roundw
          case rel => exact ⟨k + 1, _, I, O ++ T, rfl, rfl, by go_num, by omega, by omega, by rw [ByteArray.size_append]; omega, HIO2, HF5.out.keeps ((Keeps.refl [] _).drewN n8) (by simp) (by simp), HK5.out.drewN n8, HI5.out.keeps ((Keeps.refl [] _).drewN n8) (by simp)⟩
          case measure => simp [intOf]; omega
      · go_wp2_with (fail)
        refine (do_agg x.kind x.n x.s _ _ cap q _ HF.out (by omega)).mono ?_
        rintro e w5 ⟨n', t', hnt, rfl, hf5, hk5⟩
        · have hdq : doQ cap q ⟨x.kind, x.n, x.s⟩ = q := by simp [doQ, h0, h1, h2, h3]
          rw [hdq] at hf5
          have HF5 := Lib.hid hf5
          have HK5 := Lib.hid (HK.out.trans' hk5 (by simp; omega))
          have HI5 := Lib.hid (HI.out.keeps hk5 (by simp))
          rw [← hk5.cell (p := ⟨g, k * 3, none⟩) hg1 (by simp; omega)] at hx0
          rw [← hk5.cell (p := ⟨g, k * 3 + 1, none⟩) hg1 (by simp; omega)] at hx1
          rw [← hk5.cell (p := ⟨g, k * 3 + 2, none⟩) hg1 (by simp; omega)] at hx2
          have hql5 := fi_len HF5.out
          have HIO2 := HIO
          clear hdq
          obtain ⟨L5, hL5⟩ : ∃ L5, (q).length = L5 := ⟨_, rfl⟩
          obtain ⟨R5, hR5⟩ : ∃ R5, cap - (q).length = R5 := ⟨_, rfl⟩
          have hb5 : ((L5 : Int) + (R5 : Int) != (cap : Int)) = false := by simp; omega
          have i5 : L5 ≤ 4096 := by omega
          have i6 : R5 ≤ 4096 := by omega
          have HL5 := Lib.hid hL5
          have HR5 := Lib.hid hR5
          clear hL5 hR5 hql5 hf5 hk5 hnt
          go_wp2_with (first | (go_at_call 12; refine (len_eq _ _ cap L5 _ HL5.out _ HF5.out).mono ?_; rintro e w' ⟨rfl, rfl⟩) | (go_at_call 17; refine (room_eq _ _ cap R5 _ HR5.out _ HF5.out).mono ?_; rintro e w' ⟨rfl, n8, rfl⟩))
          go_roundw
          case rel => exact ⟨k + 1, _, I, O, rfl, rfl, by go_num, by omega, by omega, by omega, HIO2, HF5.out.keeps ((Keeps.refl [] _).drewN n8) (by simp) (by simp), HK5.out.drewN n8, HI5.out.keeps ((Keeps.refl [] _).drewN n8) (by simp)⟩
          case measure => simp [intOf]; omega
    · obtain rfl : k = ys.length := by omega
      have hql := fi_len HF.out
      obtain ⟨P, hP⟩ : ∃ P, str (q.take (cap : Int).toNat) = P := ⟨_, rfl⟩
      have hOP : O ++ P = I := ba_ext (by rw [app_toList, ← hP, str_toList, HIO.out, List.take_of_length_le (by simpa using hql)])
      have hPz : P.size ≤ 4096 := by rw [← hP, str_size, List.length_take]; omega
      have HP := Lib.hid hP
      clear hP hql
      go_wp2_with (go_at_call 18; refine (peek_eq _ _ cap q cap P HP.out _ HF.out).mono ?_; rintro e w4 ⟨rfl, hk4⟩; have HK4 := Lib.hid (HK.out.trans hk4); clear hk4)
      go_ret
      exact ⟨rfl, HK4.out.below (Nat.le_refl _) (by simp)⟩

theorem walk (n : Int) (a : Option Addr) (xs : List Op1) (c : Nat) {W : World} (_ : (Lit.int .i64 n).wf = true) (hx : OpsArg W a xs) (w : World) (hw : w = W) :
    Calls Try.prog 4 #[.int .i64 n, .slice a xs.length c] w fun e w' => e = .returned (.bool true) ∧ Below w.heap.size w w' := by
  subst hw
  by_cases h : n < 1 ∨ 4096 < n
  · exact walk_bad n a c xs w h hx
  · obtain ⟨k, rfl⟩ : ∃ k : Nat, n = k := ⟨n.toNat, by omega⟩
    exact walk_good k a c xs w (by omega) (by omega) hx

theorem own : ownKnob Try.prog.godebug = none := by kernel_rfl

set_option maxRecDepth 100000 in
theorem lifted (os : Os) (started : os.Started) (H : Type) (enc : TypeId × Value → H) :
    ReturnsInHanded {} Try.checked os 4 .any (Rows.fifoOrderSpec.pre6 enc Try.prog Try.f4 Rows.fifoOrderRow.domain false) (Rows.fifoOrderSpec.post enc Try.prog Try.f4 false true false false) := by
  refine returnsInHanded_of_change (C := Try.checked) own started (by kernel_rfl) Try.func4
    (ChangeSpec.witness6 (enc := enc) (C := Try.checked) false ⟨#[], #[.int .i64 0, .slice none 0 0], []⟩ 8 (by kernel_rfl) (by kernel_rfl) (by kernel_rfl) (by kernel_rfl)) ?_
  intro W base args ds gs before hval0 hW hcnd _
  have hval : ∀ (j : Nat) t v, Try.f4.params[j]? = some t → args[j]? = some v → Value.okWide Try.prog W .any base t v := hval0
  have hW' := hW
  obtain ⟨p, q, hA0, hV, rfl, hfz, hnd⟩ := hW
  have hA : DataW.TrodAll enc Try.prog W 0 (fun _ => true) true Try.f4.params.toList args.toList ds p := hA0
  rw [Try.params4] at hA hval
  obtain ⟨v0, vs0, d0, ds0, p0, q0, hargs, rfl, rfl, h0, r0⟩ := trodAll_cons hA
  obtain ⟨v1, vs1, d1, ds1, p1, q1, rfl, rfl, rfl, h1, r1⟩ := trodAll_cons r0
  obtain ⟨rfl, rfl, rfl⟩ := trodAll_nil r1
  obtain rfl : args = #[v0, v1] := by cases args; simp_all
  obtain ⟨rfl, rfl⟩ := trodVars_none hV
  obtain ⟨a0, rfl, rfl, rfl, w0⟩ := open_int Try.underlying3 (hval 0 3 v0 rfl rfl) h0
  obtain ⟨a1, xs1, c1, rfl, w1⟩ := open_ops (hval 1 22 v1 rfl rfl) h1
  refine (walk a0 a1 xs1 c1 w0 w1 W rfl).mono fun e W' ⟨he, hb⟩ => ?_
  subst he
  exact ⟨_, rfl, law_post (by kernel_rfl) (by decide +kernel) rfl rfl Try.underlying4 hW' hb ⟨rfl, rfl, rfl⟩⟩

theorem over : Rows.fifoOrderRow.holds Try.pinned (OpenSpec.ofChange Rows.fifoOrderSpec) :=
  OpenClaim.holds_of_wide 4 Try.f4 rfl rfl rfl rfl rfl rfl rfl ⟨rfl, rfl, rfl, rfl, rfl⟩ rfl rfl rfl rfl rfl (by kernel_rfl) Try.func4 (by kernel_rfl)
    (of_decide_eq_true (by kernel_rfl)) (by unfold Func.isWrapper; first | (rw [if_pos (by decide +kernel)]; kernel_rfl) | (rw [if_neg (by decide +kernel)]; exact ⟨rfl, rfl⟩))
    (fun os started H enc _ => lifted os started H enc)

theorem proved : Rows.FifoOrderSaid := over
end Go.Proofs.Ythngchdfbcpciaa.fifoOrder
