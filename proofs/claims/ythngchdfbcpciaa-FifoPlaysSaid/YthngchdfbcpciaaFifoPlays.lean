/- FifoPlays: calls, one by one, answer as the reference's: for every capacity and list of calls. No condition. -/
import Derived.Test.YthngchdfbcpciaaFifoR
import Derived.Test.YthngchdfbcpciaaFifoParts
import Derived.Test.YthngchdfbcpciaaFifoFull
namespace Go.Proofs.Ythngchdfbcpciaa.fifoPlays
open Go.RowKit
open Go.ChangeShapes Go.WideShapes Go.ChangeAt

theorem ba_ext {a b : ByteArray} (h : a.data.toList = b.data.toList) : a = b := by
  cases a; cases b; simp at h; subst h; rfl
theorem extract_head (S : ByteArray) (m : Nat) : (S.extract 0 m).data.toList = S.data.toList.take m := by simp [ByteArray.data_extract]
theorem extract_tail (S : ByteArray) (m : Nat) : (S.extract m S.size).data.toList = S.data.toList.drop m := by
  simp only [ByteArray.data_extract, Array.toList_extract, List.extract_eq_take_drop]
  exact List.take_of_length_le (by simp)
theorem take_min (q : List UInt8) (n : Nat) : q.take (min n q.length) = q.take n := by rw [← List.take_eq_take_min]
theorem drop_min (q : List UInt8) (n : Nat) : q.drop (min n q.length) = q.drop n := by
  rcases Nat.le_total n q.length with h | h
  · rw [Nat.min_eq_left h]
  · rw [Nat.min_eq_right h, List.drop_length, List.drop_eq_nil_of_le h]

set_option maxHeartbeats 2000000 in
theorem want_agg (k m : Int) (s : ByteArray) (b cap : Nat) (q : List UInt8) (n' : Int) (t' : ByteArray) (w : World) (hd : (n', t') = doAns cap q ⟨k, m, s⟩) (h : Ri w b cap (str q)) (hq : q.length ≤ cap) (hc : cap ≤ 4096) (hs : s.size ≤ 1000000) :
    Calls Try.prog 16 #[.pointer (some ⟨b, 0, none⟩), .agg #[.int .i64 k, .int .i64 m, .string s]] w fun e w' => e = .returned (.tuple #[.int .i64 n', .string t']) ∧ Ri w' b cap (str (doQ cap q ⟨k, m, s⟩)) ∧ Keeps [b] w w' := by
  have hk0 : Keeps [] w (w.alloc (.cells #[.int .i64 k, .int .i64 m, .string s] 38)) := (Keeps.refl [] w).alloc _
  have hf0 : Ri (w.alloc (.cells #[.int .i64 k, .int .i64 m, .string s] 38)) b cap (str q) := h.keeps hk0 (by simp)
  have hb := Blk.new w 38 #[.int .i64 k, .int .i64 m, .string s]
  have hc0 := hb.cell 0
  have hc1 := hb.cell 1
  have hc2 := hb.cell 2
  have HF := Lib.hid hf0
  have HK := Lib.hid (hk0.mono (S' := [b]) (by simp))
  have hsz : (str q).size = q.length := str_size q
  have HSZ := Lib.hid hsz
  clear h hk0 hf0 hb hsz
  by_cases h0 : k = 0
  · subst h0
    obtain ⟨j, hj⟩ : ∃ j, min s.size (cap - q.length) = j := ⟨_, rfl⟩
    have hd' : n' = (j : Int) ∧ t' = ⟨#[]⟩ := by simpa [doAns, hj] using hd
    obtain ⟨rfl, rfl⟩ := hd'
    have hdq : doQ cap q ⟨0, m, s⟩ = q ++ s.data.toList.take j := by simp [doQ, hj]
    have hU : str q ++ s.extract 0 j = str (q ++ s.data.toList.take j) := ba_ext (by rw [show (str q ++ s.extract 0 j).data.toList = (str q).data.toList ++ (s.extract 0 j).data.toList by simp, extract_head, str_toList, str_toList])
    have C := Lib.hid (fun (W : World) (h : Ri W b cap (str q)) => rpush_any b cap j s (str q) _ _ W h (by rw [HSZ.out]; exact hq) hc hs (by rw [HSZ.out]; exact hj) rfl hU)
    rw [hdq]
    clear hd hj hdq hU
    go_enter Try.func16, Try.ntmps16
    go_wp2_with (go_at_call 24; refine ((unhide C) _ HF.out).mono ?_; rintro e w1 ⟨rfl, hf, hk⟩; have HF1 := Lib.hid hf; have HK1 := Lib.hid hk; clear hf hk)
    go_ret2
    exact ⟨rfl, HF1.out, HK.out.trans HK1.out⟩
  by_cases h1 : k = 1
  · subst h1
    clear h0
    have hd' : n' = 0 ∧ t' = str (q.take m.toNat) := by simpa [doAns] using hd
    obtain ⟨rfl, rfl⟩ := hd'
    have hdq : doQ cap q ⟨1, m, s⟩ = q.drop m.toNat := by simp [doQ]
    have hT : (str q).extract 0 (min m.toNat q.length) = str (q.take m.toNat) := ba_ext (by rw [extract_head, str_toList, str_toList, take_min])
    have hU : (str q).extract (min m.toNat q.length) (str q).size = str (q.drop m.toNat) := ba_ext (by rw [extract_tail, str_toList, str_toList, drop_min])
    have C := Lib.hid (fun (W : World) (h : Ri W b cap (str q)) => rpop_any b cap (min m.toNat q.length) m (str q) _ _ W h (by rw [HSZ.out]) hT hU)
    rw [hdq]
    clear hd hdq hT hU
    go_enter Try.func16, Try.ntmps16
    go_wp2_with (go_at_call 25; refine ((unhide C) _ HF.out).mono ?_; rintro e w1 ⟨rfl, hf, hk⟩; have HF1 := Lib.hid hf; have HK1 := Lib.hid hk; clear hf hk)
    go_ret2
    exact ⟨rfl, HF1.out, HK.out.trans HK1.out⟩
  by_cases h2 : k = 2
  · subst h2
    clear h0 h1
    have hd' : n' = 0 ∧ t' = str (q.take m.toNat) := by simpa [doAns] using hd
    obtain ⟨rfl, rfl⟩ := hd'
    have hdq : doQ cap q ⟨2, m, s⟩ = q := by simp [doQ]
    have hT : (str q).extract 0 (min m.toNat q.length) = str (q.take m.toNat) := ba_ext (by rw [extract_head, str_toList, str_toList, take_min])
    have C := Lib.hid (fun (W : World) (h : Ri W b cap (str q)) => rpeek_any b cap (min m.toNat q.length) m (str q) _ W h (by rw [HSZ.out]) hT)
    rw [hdq]
    clear hd hdq hT
    go_enter Try.func16, Try.ntmps16
    go_wp2_with (go_at_call 26; refine ((unhide C) _ HF.out).mono ?_; rintro e w1 ⟨rfl, n1, rfl⟩)
    go_ret2
    exact ⟨rfl, HF.out.keeps ((Keeps.refl [] _).drewN n1) (by simp), HK.out.drewN n1⟩
  by_cases h3 : k = 3
  · subst h3
    clear h0 h1 h2
    have hd' : n' = (q.length : Int) ∧ t' = ⟨#[]⟩ := by simpa [doAns] using hd
    obtain ⟨rfl, rfl⟩ := hd'
    have hdq : doQ cap q ⟨3, m, s⟩ = [] := by simp [doQ]
    rw [hdq]
    clear hd hdq
    go_enter Try.func16, Try.ntmps16
    go_wp2_with (go_at_call 27; refine (rclear_any b cap _ _ HF.out).mono ?_; rintro e w1 ⟨rfl, hf, hk⟩; have HF1 := Lib.hid hf; have HK1 := Lib.hid hk; clear hf hk)
    go_ret2
    exact ⟨by rw [HSZ.out]; rfl, HF1.out, HK.out.trans HK1.out⟩
  · have hd' : n' = 0 ∧ t' = ⟨#[]⟩ := by simpa [doAns, h0, h1, h2, h3] using hd
    obtain ⟨rfl, rfl⟩ := hd'
    have hdq : doQ cap q ⟨k, m, s⟩ = q := by simp [doQ, h0, h1, h2, h3]
    rw [hdq]
    clear hd hdq
    go_enter Try.func16, Try.ntmps16
    go_wp2
    go_ret2
    exact ⟨rfl, HF.out, HK.out⟩

theorem quiet_left {P : Program} {f : FuncId} {args : Array Value} {w : World} {n : Nat} {v : Value}
    (h : Calls P f args (w.drewN n) fun e w' => e = .returned v ∧ w.drewN n = w') : Calls P f args (w.drewN n) fun e w'' => e = .returned v ∧ ∃ m, w'' = w.drewN m :=
  h.mono fun _ _ ⟨he, hm⟩ => ⟨he, n, hm.symm⟩
theorem fi_drewN {w : World} {b bb cap : Nat} {q : List UInt8} (h : Fi w b bb cap q) (n : Nat) : Fi (w.drewN n) b bb cap q := h.keeps ((Keeps.refl [] w).drewN n) (by simp) (by simp)

set_option maxRecDepth 100000 in
set_option maxHeartbeats 1000000 in
theorem walk_bad (n : Int) (a : Option Addr) (c : Nat) (xs : List Op1) (w : World) (h : n < 1 ∨ 4096 < n) (hx : OpsArg w a xs) :
    Calls Try.prog 3 #[.int .i64 n, .slice a xs.length c] w fun e w' => e = .returned (.bool true) ∧ Below w.heap.size w w' := by
  have HX := Lib.hid hx
  have hs1 : (⟨#[97]⟩ : ByteArray).size ≤ maxLen := by decide
  clear hx
  go_enter Try.func3, Try.ntmps3
  go_wp2_with (fail)
  refine (shown_any _).mono ?_
  rintro e w1 ⟨rfl, hk1⟩
  have HK1 := Lib.hid hk1
  clear hk1
  go_wp2_with (fail)
  refine (cutops_in _ a c xs (HX.out.keeps HK1.out (by simp))).mono ?_
  rintro e w2 ⟨a', c', rfl, -, hk2⟩
  have HK2 := Lib.hid (HK1.out.trans hk2)
  clear hk2
  go_wp2_with (fail)
  refine (new_bad n _ h).mono ?_
  rintro e w' ⟨rfl, rfl⟩
  go_wp2_with (fail)
  refine (rnew_bad n _ h).mono ?_
  rintro e w' ⟨rfl, rfl⟩
  go_wp2_with (fail)
  refine (len_nil _).mono ?_
  rintro e w' ⟨rfl, rfl⟩
  go_wp2_with (fail)
  refine (push_nil _ _ hs1).mono ?_
  rintro e w3 ⟨rfl, hk3⟩
  have HK3 := Lib.hid (HK2.out.trans hk3)
  clear hk3
  go_wp2_with (fail)
  refine (pop_nil _ _).mono ?_
  rintro e w4 ⟨rfl, hk4⟩
  have HK4 := Lib.hid (HK3.out.trans hk4)
  clear hk4
  go_wp2_with (fail)
  go_ret
  exact ⟨rfl, HK4.out.below (Nat.le_refl _) (by simp)⟩

set_option maxRecDepth 100000 in
set_option maxHeartbeats 8000000 in
theorem walk_good (cap : Nat) (a : Option Addr) (c : Nat) (xs : List Op1) (w : World) (hc1 : 1 ≤ cap) (hc2 : cap ≤ 4096) (hx : OpsArg w a xs) :
    Calls Try.prog 3 #[.int .i64 cap, .slice a xs.length c] w fun e w' => e = .returned (.bool true) ∧ Below w.heap.size w w' := by
  have HX := Lib.hid hx
  have hyl := cutOps_length xs
  have HYS := Lib.hid (cutOps_size xs)
  clear hx
  go_enter Try.func3, Try.ntmps3
  go_wp2_with (fail)
  refine (shown_any _).mono ?_
  rintro e w1 ⟨rfl, hk1⟩
  have HK1 := Lib.hid hk1
  clear hk1
  go_wp2_with (fail)
  refine (cutops_in _ a c xs (HX.out.keeps HK1.out (by simp))).mono ?_
  rintro e w2 ⟨a', c', rfl, hin, hk2⟩
  generalize cutOps xs = ys at hin hyl HYS ⊢
  have HK2 := Lib.hid (HK1.out.trans hk2)
  have HIN := Lib.hid hin
  clear hk2 hin
  go_wp2_with (fail)
  refine (new_ok cap _ hc1 hc2).mono ?_
  rintro e w3 ⟨rfl, hf3, hk3, hz3⟩
  have HF3 := Lib.hid hf3
  have HK3 := Lib.hid (HK2.out.trans hk3)
  have HIN3 := Lib.hid (HIN.out.keeps hk3 (by simp))
  have hws : w.heap.size ≤ w2.heap.size := HK2.out.size
  clear hf3 hk3
  go_wp2_with (fail)
  refine (rnew_ok cap _ hc1 hc2).mono ?_
  rintro e w4 ⟨rfl, hr4, hk4⟩
  have HF4 := Lib.hid (HF3.out.keeps hk4 (by simp) (by simp))
  have HR4 : Hid (Ri w4 w3.heap.size cap (str [])) := hr4
  have HK4 := Lib.hid (HK3.out.trans hk4)
  have HIN4 := Lib.hid (HIN3.out.keeps hk4 (by simp))
  clear hr4 hk4
  go_wp2_with (fail)
  go_loopw [10] (fun i wr => ∃ (k : Nat) (q : List UInt8), i = .int .i64 k ∧ k ≤ ys.length ∧ Hid (Fi wr (w2.heap.size + 1) w2.heap.size cap q) ∧ Hid (Ri wr w3.heap.size cap (str q)) ∧ Hid (Keeps [] w wr) ∧ Hid (OpsIn wr w2.heap.size a' ys)) (fun i _ => ys.length - (intOf i).toNat)
  case atStart => exact ⟨0, [], rfl, Nat.zero_le _, HF4, HR4, HK4, HIN4⟩
  case round =>
    obtain ⟨k, q, rfl, hk, HF, HR, HK, HI⟩ := hrel
    by_cases hlt : k < ys.length
    · obtain ⟨g, x, rfl, hyx, hx0, hx1, hx2⟩ := HI.out.at_ hlt
      have hsz : x.s.size ≤ 1000000 := by have := HYS.out x (List.mem_of_getElem? hyx); omega
      have hg' : g < wr.heap.size ∧ g < w2.heap.size := by
        obtain ⟨g2, e2, h2, h3, _⟩ := HI.out (by omega)
        obtain rfl : g = g2 := by simpa using e2
        exact ⟨h3, h2⟩
      obtain ⟨hg1, hg2⟩ := hg'
      have hql : q.length ≤ cap := by obtain ⟨fr, A, h⟩ := HF.out; exact h.len
      clear hyx
      go_wp2_with (fail)
      refine (do_agg x.kind x.n x.s _ _ cap q _ HF.out hsz).mono ?_
      rintro e w5 ⟨n', t', hnt, rfl, hf5, hk5⟩
      have HNT := Lib.hid hnt
      have HF5 := Lib.hid hf5
      have HR5 := Lib.hid (HR.out.keeps hk5 (by simp; omega))
      have HK5 := Lib.hid (HK.out.trans' hk5 (by simp; omega))
      have HI5 := Lib.hid (HI.out.keeps hk5 (by simp))
      rw [← hk5.cell (p := ⟨g, k * 3, none⟩) hg1 (by simp; omega)] at hx0
      rw [← hk5.cell (p := ⟨g, k * 3 + 1, none⟩) hg1 (by simp; omega)] at hx1
      rw [← hk5.cell (p := ⟨g, k * 3 + 2, none⟩) hg1 (by simp; omega)] at hx2
      clear hnt hf5 hk5
      go_wp2_with (fail)
      refine (want_agg x.kind x.n x.s _ cap q n' t' _ HNT.out HR5.out hql hc2 hsz).mono ?_
      rintro e w6 ⟨rfl, hr6, hk6⟩
      obtain ⟨q6, hq6⟩ : ∃ q6, doQ cap q ⟨x.kind, x.n, x.s⟩ = q6 := ⟨_, rfl⟩
      rw [hq6] at hr6
      have hf6 := HF5.out.keeps hk6 (by simp; omega) (by simp; omega)
      rw [hq6] at hf6
      have HF6 := Lib.hid hf6
      have HR6 := Lib.hid hr6
      have HK6 := Lib.hid (HK5.out.trans' hk6 (by simp; omega))
      have HI6 := Lib.hid (HI5.out.keeps hk6 (by simp; omega))
      have hql6 : q6.length ≤ cap := by obtain ⟨fr, A, h⟩ := hf6; exact h.len
      obtain ⟨L6, hL6⟩ : ∃ L6, q6.length = L6 := ⟨_, rfl⟩
      obtain ⟨R6, hR6⟩ : ∃ R6, cap - q6.length = R6 := ⟨_, rfl⟩
      obtain ⟨S6, hS6⟩ : ∃ S6, str q6 = S6 := ⟨_, rfl⟩
      have hz6 : S6.size = L6 := by rw [← hS6, str_size, hL6]
      rw [hS6] at hr6
      have c0 := hr6.c0
      have c1 := hr6.c1
      have hb1 : ((L6 : Int) != (S6.size : Int)) = false := by simp; omega
      have hw6 : IntKind.i64.wrap ((cap : Int) - (S6.size : Int)) = (R6 : Int) := by rw [IntWalk.i64_in _ (by omega)]; omega
      have HL6 := Lib.hid hL6
      have HRR6 := Lib.hid hR6
      clear hk6 hr6 hf6 hq6 hL6 hR6 hS6 hz6 hql hql6
      go_wp2_with (fail)
      go_quiet ((first | (go_at_call 12; exact quiet_left (len_eq _ _ cap L6 q6 HL6.out _ (fi_drewN HF6.out _))) | (go_at_call 17; exact Calls.quiet_of (room_eq _ _ cap R6 q6 HRR6.out _ (fi_drewN HF6.out _)))))
      go_wp2_with (fail)
      go_roundw
      case rel => exact ⟨k + 1, q6, by go_num, by omega, fi_drewN HF6.out _, HR6.out.keeps ((Keeps.refl [] _).drewN _) (by simp), HK6.out.drewN _, HI6.out.keeps ((Keeps.refl [] _).drewN _) (by simp)⟩
      case measure => simp [intOf]; omega
    · obtain rfl : k = ys.length := by omega
      go_wp2_with (fail)
      go_ret
      exact ⟨rfl, HK.out.below (Nat.le_refl _) (by simp)⟩

theorem walk (n : Int) (a : Option Addr) (xs : List Op1) (c : Nat) {W : World} (_ : (Lit.int .i64 n).wf = true) (hx : OpsArg W a xs) (w : World) (hw : w = W) :
    Calls Try.prog 3 #[.int .i64 n, .slice a xs.length c] w fun e w' => e = .returned (.bool true) ∧ Below w.heap.size w w' := by
  subst hw
  by_cases h : n < 1 ∨ 4096 < n
  · exact walk_bad n a c xs w h hx
  · obtain ⟨k, rfl⟩ : ∃ k : Nat, n = k := ⟨n.toNat, by omega⟩
    exact walk_good k a c xs w (by omega) (by omega) hx

theorem own : ownKnob Try.prog.godebug = none := by kernel_rfl

set_option maxRecDepth 100000 in
theorem lifted (os : Os) (started : os.Started) (H : Type) (enc : TypeId × Value → H) :
    ReturnsInHanded {} Try.checked os 3 .any (Rows.fifoPlaysSpec.pre6 enc Try.prog Try.f3 Rows.fifoPlaysRow.domain false) (Rows.fifoPlaysSpec.post enc Try.prog Try.f3 false true false false) := by
  refine returnsInHanded_of_change (C := Try.checked) own started (by kernel_rfl) Try.func3
    (ChangeSpec.witness6 (enc := enc) (C := Try.checked) false ⟨#[], #[.int .i64 0, .slice none 0 0], []⟩ 8 (by kernel_rfl) (by kernel_rfl) (by kernel_rfl) (by kernel_rfl)) ?_
  intro W base args ds gs before hval0 hW hcnd _
  have hval : ∀ (j : Nat) t v, Try.f3.params[j]? = some t → args[j]? = some v → Value.okWide Try.prog W .any base t v := hval0
  have hW' := hW
  obtain ⟨p, q, hA0, hV, rfl, hfz, hnd⟩ := hW
  have hA : DataW.TrodAll enc Try.prog W 0 (fun _ => true) true Try.f3.params.toList args.toList ds p := hA0
  rw [Try.params3] at hA hval
  obtain ⟨v0, vs0, d0, ds0, p0, q0, hargs, rfl, rfl, h0, r0⟩ := trodAll_cons hA
  obtain ⟨v1, vs1, d1, ds1, p1, q1, rfl, rfl, rfl, h1, r1⟩ := trodAll_cons r0
  obtain ⟨rfl, rfl, rfl⟩ := trodAll_nil r1
  obtain rfl : args = #[v0, v1] := by cases args; simp_all
  obtain ⟨rfl, rfl⟩ := trodVars_none hV
  obtain ⟨a0, rfl, rfl, rfl, w0⟩ := open_int Try.underlying3 (hval 0 3 v0 rfl rfl) h0
  obtain ⟨a1, xs1, c1, rfl, w1⟩ := open_ops (hval 1 22 v1 rfl rfl) h1
  refine (walk a0 a1 xs1 c1 w0 w1 W rfl).mono fun e W' ⟨he, hb⟩ => ?_
  subst he
  exact ⟨_, rfl, law_post (by kernel_rfl) (by decide +kernel) rfl rfl Try.underlying4 hW' hb ⟨rfl, rfl, rfl⟩⟩

theorem over : Rows.fifoPlaysRow.holds Try.pinned (OpenSpec.ofChange Rows.fifoPlaysSpec) :=
  OpenClaim.holds_of_wide 3 Try.f3 rfl rfl rfl rfl rfl rfl rfl ⟨rfl, rfl, rfl, rfl, rfl⟩ rfl rfl rfl rfl rfl (by kernel_rfl) Try.func3 (by kernel_rfl)
    (of_decide_eq_true (by kernel_rfl)) (by unfold Func.isWrapper; first | (rw [if_pos (by decide +kernel)]; kernel_rfl) | (rw [if_neg (by decide +kernel)]; exact ⟨rfl, rfl⟩))
    (fun os started H enc _ => lifted os started H enc)

theorem proved : Rows.FifoPlaysSaid := over
end Go.Proofs.Ythngchdfbcpciaa.fifoPlays
