/- FifoParts: a text that is pushed in two parts is as it is at once: for every capacity, list of calls, text and place. No condition. -/
import Derived.Test.YthngchdfbcpciaaLawOps
namespace Go.Proofs.Ythngchdfbcpciaa
open Go.RowKit

/-- A text cut at one hundred bytes, as the walk comes to it. -/
theorem cut100 (s : ByteArray) : ∃ (M : Int) (t : ByteArray), (if (100 : Int) < (s.size : Int) then (100 : Int) else (s.size : Int)) = M ∧
    (∀ W : World, (Instr.slice 9 (.string s) none (some (.int .i64 M)) none).run Try.prog W = .ok (.string t) W) ∧ t.size ≤ 100 := by
  refine ⟨(min s.size 100 : Nat), s.extract 0 (min s.size 100), by split <;> omega, fun W => ?_, by simp; omega⟩
  have := run_slice_string_h (P := Try.prog) (w := W) (t := 9) (s := s) Try.underlying9 .i64 ((min s.size 100 : Nat) : Int) (by omega) (by omega)
  simpa using this

theorem parts_len (n a r : Nat) (h : a ≤ n) : min n r = min a r + min (n - a) (r - min a r) := by omega
theorem parts_text (l : List UInt8) (a r : Nat) (h : a ≤ l.length) : l.take (min l.length r) = (l.take a).take (min a r) ++ (l.drop a).take (min (l.length - a) (r - min a r)) := by
  rw [parts_len l.length a r h, List.take_take]
  rcases Nat.le_total a r with h1 | h1
  · rw [Nat.min_eq_left h1, Nat.min_self, List.take_add]
  · rw [Nat.min_eq_right h1, Nat.sub_self, Nat.min_zero, Nat.add_zero, Nat.min_eq_left h1]; simp

theorem unhide {p : Prop} (h : Hid p) : p := h

namespace fifoParts
open Go.ChangeShapes Go.WideShapes Go.ChangeAt
open Go.ChangeMaps (open_string shut_string)

set_option maxRecDepth 100000 in
set_option maxHeartbeats 2000000 in
theorem walk_bad (n : Int) (a : Option Addr) (c : Nat) (xs : List Op1) (s : ByteArray) (m : Int) (w : World) (h : n < 1 ∨ 4096 < n) (hx : OpsArg w a xs) :
    Calls Try.prog 5 #[.int .i64 n, .slice a xs.length c, .string s, .int .i64 m] w fun e w' => e = .returned (.bool true) ∧ Below w.heap.size w w' := by
  have HX := Lib.hid hx
  obtain ⟨M, t, hM, hsl, hts⟩ := cut100 s
  clear hx
  go_enter Try.func5, Try.ntmps5
  go_wp2_with (fail)
  refine (shown_any _).mono ?_
  rintro e w1 ⟨rfl, hk1⟩
  have HK1 := Lib.hid hk1
  clear hk1
  go_wp2_with (fail)
  refine (cutops_in _ a c xs (HX.out.keeps HK1.out (by simp))).mono ?_
  rintro e w2 ⟨a', c', rfl, -, hk2⟩
  have HK2 := Lib.hid (HK1.out.trans hk2)
  clear hk2
  go_wp2_with (fail)
  refine (new_bad n _ h).mono ?_
  rintro e w' ⟨rfl, rfl⟩
  go_wp2_with (fail)
  refine (new_bad n _ h).mono ?_
  rintro e w' ⟨rfl, rfl⟩
  go_wp2_with (fail)
  go_ret
  exact ⟨rfl, HK2.out.below (Nat.le_refl _) (by simp)⟩

set_option maxRecDepth 100000 in
set_option maxHeartbeats 2000000 in
theorem walk_out (cap : Nat) (a : Option Addr) (c : Nat) (xs : List Op1) (s : ByteArray) (m : Int) (w : World) (hc1 : 1 ≤ cap) (hc2 : cap ≤ 4096) (hx : OpsArg w a xs)
    (M : Int) (t : ByteArray) (hM : (if (100 : Int) < (s.size : Int) then (100 : Int) else (s.size : Int)) = M) (hsl : ∀ W : World, (Instr.slice 9 (.string s) none (some (.int .i64 M)) none).run Try.prog W = .ok (.string t) W)
    (hm : m < 0 ∨ (t.size : Int) < m) :
    Calls Try.prog 5 #[.int .i64 cap, .slice a xs.length c, .string s, .int .i64 m] w fun e w' => e = .returned (.bool true) ∧ Below w.heap.size w w' := by
  have HX := Lib.hid hx
  clear hx
  rcases hm with hm | hm
  all_goals
    go_enter Try.func5, Try.ntmps5
    go_wp2_with (fail)
    refine (shown_any _).mono ?_
    rintro e w1 ⟨rfl, hk1⟩
    have HK1 := Lib.hid hk1
    clear hk1
    go_wp2_with (fail)
    refine (cutops_in _ a c xs (HX.out.keeps HK1.out (by simp))).mono ?_
    rintro e w2 ⟨a', c', rfl, -, hk2⟩
    have HK2 := Lib.hid (HK1.out.trans hk2)
    clear hk2
    go_wp2_with (fail)
    refine (new_ok cap _ hc1 hc2).mono ?_
    rintro e w3 ⟨rfl, -, hk3, -⟩
    have HK3 := Lib.hid (HK2.out.trans hk3)
    clear hk3
    go_wp2_with (fail)
    refine (new_ok cap _ hc1 hc2).mono ?_
    rintro e w4 ⟨rfl, -, hk4, -⟩
    have HK4 := Lib.hid (HK3.out.trans hk4)
    clear hk4
    go_wp2_with (fail)
    go_ret
    exact ⟨rfl, HK4.out.below (Nat.le_refl _) (by simp)⟩

set_option maxRecDepth 100000 in
set_option maxHeartbeats 4000000 in
theorem walk_inside (cap : Nat) (a : Option Addr) (c : Nat) (xs : List Op1) (s : ByteArray) (at_ : Nat) (w : World) (hc1 : 1 ≤ cap) (hc2 : cap ≤ 4096) (hx : OpsArg w a xs)
    (M : Int) (t : ByteArray) (hM : (if (100 : Int) < (s.size : Int) then (100 : Int) else (s.size : Int)) = M) (hsl : ∀ W : World, (Instr.slice 9 (.string s) none (some (.int .i64 M)) none).run Try.prog W = .ok (.string t) W)
    (hts : t.size ≤ 100) (hm : at_ ≤ t.size) :
    Calls Try.prog 5 #[.int .i64 cap, .slice a xs.length c, .string s, .int .i64 at_] w fun e w' => e = .returned (.bool true) ∧ Below w.heap.size w w' := by
  have HX := Lib.hid hx
  have hyl := cutOps_length xs
  have HYS := Lib.hid (cutOps_size xs)
  have hd1 : decide ((at_ : Int) < 0) = false := by simp
  have hd2 : decide (t.size < at_) = false := by simp; omega
  clear hx
  go_enter Try.func5, Try.ntmps5
  go_wp2_with (fail)
  refine (shown_any _).mono ?_
  rintro e w1 ⟨rfl, hk1⟩
  have HK1 := Lib.hid hk1
  clear hk1
  go_wp2_with (fail)
  refine (cutops_in _ a c xs (HX.out.keeps HK1.out (by simp))).mono ?_
  rintro e w2 ⟨a', c', rfl, hin, hk2⟩
  generalize cutOps xs = ys at hin hyl HYS ⊢
  have HK2 := Lib.hid (HK1.out.trans hk2)
  have HIN := Lib.hid hin
  clear hk2 hin
  go_wp2_with (fail)
  refine (new_ok cap _ hc1 hc2).mono ?_
  rintro e w3 ⟨rfl, hf3, hk3, hz3⟩
  have HF3 := Lib.hid hf3
  have HK3 := Lib.hid (HK2.out.trans hk3)
  have HIN3 := Lib.hid (HIN.out.keeps hk3 (by simp))
  have hws : w.heap.size ≤ w2.heap.size := HK2.out.size
  clear hf3 hk3
  go_wp2_with (fail)
  refine (new_ok cap _ hc1 hc2).mono ?_
  rintro e w4 ⟨rfl, hf4, hk4, -⟩
  have HF4 := Lib.hid (HF3.out.keeps hk4 (by simp) (by simp))
  have HG4 := Lib.hid hf4
  have HK4 := Lib.hid (HK3.out.trans hk4)
  have HIN4 := Lib.hid (HIN3.out.keeps hk4 (by simp))
  clear hf4 hk4
  go_wp2_with (fail)
  go_loopw [14] (fun i wr => ∃ (k : Nat) (q : List UInt8), i = .int .i64 k ∧ k ≤ ys.length ∧ Hid (Fi wr (w2.heap.size + 1) w2.heap.size cap q) ∧ Hid (Fi wr (w3.heap.size + 1) w3.heap.size cap q) ∧ Hid (Keeps [] w wr) ∧ Hid (OpsIn wr w2.heap.size a' ys)) (fun i _ => ys.length - (intOf i).toNat)
  case atStart => exact ⟨0, [], rfl, Nat.zero_le _, HF4, HG4, HK4, HIN4⟩
  case round =>
    obtain ⟨k, q, rfl, hk, HF, HG, HK, HI⟩ := hrel
    by_cases hlt : k < ys.length
    · obtain ⟨g, x, rfl, hyx, hx0, hx1, hx2⟩ := HI.out.at_ hlt
      have hsz : x.s.size ≤ 1000000 := by have := HYS.out x (List.mem_of_getElem? hyx); omega
      clear hyx
      go_wp2_with (fail)
      refine (do_agg x.kind x.n x.s _ _ cap q _ HF.out hsz).mono ?_
      rintro e w5 ⟨n', t', -, rfl, hf5, hk5⟩
      have HF5 := Lib.hid hf5
      have HG5 := Lib.hid (HG.out.keeps hk5 (by simp; omega) (by simp; omega))
      have HK5 := Lib.hid (HK.out.trans' hk5 (by simp; omega))
      have hi5 := HI.out.keeps hk5 (by simp)
      obtain ⟨g', x', hga, hyx', hx0', hx1', hx2'⟩ := hi5.at_ hlt
      obtain rfl : g = g' := by simpa using hga
      have hxx : x'.kind = x.kind ∧ x'.n = x.n ∧ x'.s = x.s := by
        have hg' : g < wr.heap.size ∧ g < w2.heap.size := by
          obtain ⟨g2, e2, h2, h3, _⟩ := HI.out (by omega)
          obtain rfl : g = g2 := by simpa using e2
          exact ⟨h3, h2⟩
        rw [hk5.cell (p := ⟨g, k * 3, none⟩) hg'.1 (by simp; omega)] at hx0'
        rw [hk5.cell (p := ⟨g, k * 3 + 1, none⟩) hg'.1 (by simp; omega)] at hx1'
        rw [hk5.cell (p := ⟨g, k * 3 + 2, none⟩) hg'.1 (by simp; omega)] at hx2'
        rw [hx0] at hx0'; rw [hx1] at hx1'; rw [hx2] at hx2'
        simp at hx0' hx1' hx2'
        exact ⟨hx0'.symm, hx1'.symm, hx2'.symm⟩
      rw [hxx.1] at hx0'
      rw [hxx.2.1] at hx1'
      rw [hxx.2.2] at hx2'
      have HI5 := Lib.hid hi5
      clear hf5 hk5 hi5 hga hyx' hxx
      go_wp2_with (fail)
      refine (do_agg x.kind x.n x.s _ _ cap q _ HG5.out hsz).mono ?_
      rintro e w6 ⟨n'', t'', -, rfl, hf6, hk6⟩
      have HG6 := Lib.hid hf6
      have HF6 := Lib.hid (HF5.out.keeps hk6 (by simp; omega) (by simp; omega))
      have HK6 := Lib.hid (HK5.out.trans' hk6 (by simp; omega))
      have HI6 := Lib.hid (HI5.out.keeps hk6 (by simp; omega))
      clear hf6 hk6
      go_wp2_with (fail)
      go_roundw
      case rel => exact ⟨k + 1, _, by go_num, by omega, HF6, HG6, HK6, HI6⟩
      case measure => simp [intOf]; omega
    · obtain rfl : k = ys.length := by omega
      have hql : q.length ≤ cap := by obtain ⟨fr, A, h⟩ := HF.out; exact h.len
      obtain ⟨r, hr⟩ : ∃ r, cap - q.length = r := ⟨_, rfl⟩
      obtain ⟨n1, hn1⟩ : ∃ n1, min t.size r = n1 := ⟨_, rfl⟩
      obtain ⟨m1, hm1⟩ : ∃ m1, min at_ r = m1 := ⟨_, rfl⟩
      obtain ⟨k1, hk1⟩ : ∃ k1, min (t.size - at_) (r - m1) = k1 := ⟨_, rfl⟩
      have htl : t.data.toList.length = t.size := by simp
      have hpl := parts_len t.size at_ r hm
      have hpt := parts_text t.data.toList at_ r (by omega)
      rw [htl, hn1, hm1, hk1] at hpt
      rw [hn1, hm1, hk1] at hpl
      obtain ⟨qa, hqa⟩ : ∃ qa, q ++ (t.data.toList.take at_).take m1 = qa := ⟨_, rfl⟩
      obtain ⟨q1, hq1⟩ : ∃ q1, q ++ t.data.toList.take n1 = q1 := ⟨_, rfl⟩
      have hqb : qa ++ (t.data.toList.drop at_).take k1 = q1 := by rw [← hqa, List.append_assoc, ← hpt, hq1]
      have hqal : qa.length = q.length + m1 := by rw [← hqa, List.length_append, List.length_take, List.length_take, htl]; omega
      have e1 : (t.extract 0 at_).data.toList = t.data.toList.take at_ := by simp [ByteArray.data_extract]
      have e2 : (t.extract at_ t.size).data.toList = t.data.toList.drop at_ := by
        simp only [ByteArray.data_extract, Array.toList_extract, List.extract_eq_take_drop]
        exact List.take_of_length_le (by simp)
      have z1 : (t.extract 0 at_).size = at_ := by simp; omega
      have z2 : (t.extract at_ t.size).size = t.size - at_ := by simp
      obtain ⟨p, hp⟩ : ∃ p, str (q1.take (5000 : Int).toNat) = p := ⟨_, rfl⟩
      have C1 := Lib.hid (push_eq (w2.heap.size + 1) w2.heap.size cap n1 q q1 t (by rw [hr, hn1]) hq1 wr HF.out (by omega))
      have C2 := Lib.hid (fun (W : World) (h : Fi W (w3.heap.size + 1) w3.heap.size cap q) => push_eq (w3.heap.size + 1) w3.heap.size cap m1 q qa (t.extract 0 at_) (by rw [hr, z1, hm1]) (by rw [e1, hqa]) W h (by omega))
      have C3 := Lib.hid (fun (W : World) (h : Fi W (w3.heap.size + 1) w3.heap.size cap qa) => push_eq (w3.heap.size + 1) w3.heap.size cap k1 qa q1 (t.extract at_ t.size) (by rw [z2, hqal, ← Nat.sub_sub, hr, hk1]) (by rw [e2, hqb]) W h (by omega))
      have HP := Lib.hid hp
      have hb1 : ((n1 : Int) == (m1 : Int) + (k1 : Int)) = true := by simp; omega
      have i1 : m1 ≤ 100 := by omega
      have i2 : k1 ≤ 100 := by omega
      clear hql hr hn1 hm1 hk1 htl hpl hpt hqa hq1 hqb hqal e1 e2 z1 z2 hp
      go_wp2_with (fail)
      refine (unhide C1).mono ?_
      rintro e w5 ⟨rfl, hf5, hk5⟩
      have HF5 := Lib.hid hf5
      have HG5 := Lib.hid (HG.out.keeps hk5 (by simp; omega) (by simp; omega))
      have HK5 := Lib.hid (HK.out.trans' hk5 (by simp; omega))
      clear hf5 hk5
      go_wp2_with (fail)
      refine ((unhide C2) _ HG5.out).mono ?_
      rintro e w6 ⟨rfl, hf6, hk6⟩
      have HG6 := Lib.hid hf6
      have HF6 := Lib.hid (HF5.out.keeps hk6 (by simp; omega) (by simp; omega))
      have HK6 := Lib.hid (HK5.out.trans' hk6 (by simp; omega))
      clear hf6 hk6
      go_wp2_with (fail)
      refine ((unhide C3) _ HG6.out).mono ?_
      rintro e w7 ⟨rfl, hf7, hk7⟩
      have HG7 := Lib.hid hf7
      have HF7 := Lib.hid (HF6.out.keeps hk7 (by simp; omega) (by simp; omega))
      have HK7 := Lib.hid (HK6.out.trans' hk7 (by simp; omega))
      clear hf7 hk7
      go_wp2_with (fail)
      refine (peek_eq _ _ cap q1 5000 p HP.out _ HF7.out).mono ?_
      rintro e w8 ⟨rfl, hk8⟩
      have HG8 := Lib.hid (HG7.out.keeps hk8 (by simp) (by simp))
      have HK8 := Lib.hid (HK7.out.trans hk8)
      clear hk8
      go_wp2_with (fail)
      refine (peek_eq _ _ cap q1 5000 p HP.out _ HG8.out).mono ?_
      rintro e w9 ⟨rfl, hk9⟩
      have HK9 := Lib.hid (HK8.out.trans hk9)
      clear hk9
      go_wp2_with (fail)
      go_ret
      exact ⟨rfl, HK9.out.below (Nat.le_refl _) (by simp)⟩

theorem walk (n : Int) (a : Option Addr) (xs : List Op1) (c : Nat) (s : ByteArray) (m : Int) {W : World} (_ : (Lit.int .i64 n).wf = true) (hx : OpsArg W a xs) (_ : s.size ≤ maxLen) (_ : (Lit.int .i64 m).wf = true) (w : World) (hw : w = W) :
    Calls Try.prog 5 #[.int .i64 n, .slice a xs.length c, .string s, .int .i64 m] w fun e w' => e = .returned (.bool true) ∧ Below w.heap.size w w' := by
  subst hw
  by_cases h : n < 1 ∨ 4096 < n
  · exact walk_bad n a c xs s m w h hx
  · obtain ⟨k, rfl⟩ : ∃ k : Nat, n = k := ⟨n.toNat, by omega⟩
    obtain ⟨M, t, hM, hsl, hts⟩ := cut100 s
    by_cases hm : m < 0 ∨ (t.size : Int) < m
    · exact walk_out k a c xs s m w (by omega) (by omega) hx M t hM hsl hm
    · obtain ⟨j, rfl⟩ : ∃ j : Nat, m = j := ⟨m.toNat, by omega⟩
      exact walk_inside k a c xs s j w (by omega) (by omega) hx M t hM hsl hts (by omega)

theorem own : ownKnob Try.prog.godebug = none := by kernel_rfl

set_option maxRecDepth 100000 in
theorem lifted (os : Os) (started : os.Started) (H : Type) (enc : TypeId × Value → H) :
    ReturnsInHanded {} Try.checked os 5 .any (Rows.fifoPartsSpec.pre6 enc Try.prog Try.f5 Rows.fifoPartsRow.domain false) (Rows.fifoPartsSpec.post enc Try.prog Try.f5 false true false false) := by
  refine returnsInHanded_of_change (C := Try.checked) own started (by kernel_rfl) Try.func5
    (ChangeSpec.witness6 (enc := enc) (C := Try.checked) false ⟨#[], #[.int .i64 0, .slice none 0 0, .string ByteArray.empty, .int .i64 0], []⟩ 8 (by kernel_rfl) (by kernel_rfl) (by kernel_rfl) (by kernel_rfl)) ?_
  intro W base args ds gs before hval0 hW hcnd _
  have hval : ∀ (j : Nat) t v, Try.f5.params[j]? = some t → args[j]? = some v → Value.okWide Try.prog W .any base t v := hval0
  have hW' := hW
  obtain ⟨p, q, hA0, hV, rfl, hfz, hnd⟩ := hW
  have hA : DataW.TrodAll enc Try.prog W 0 (fun _ => true) true Try.f5.params.toList args.toList ds p := hA0
  rw [Try.params5] at hA hval
  obtain ⟨v0, vs0, d0, ds0, p0, q0, hargs, rfl, rfl, h0, r0⟩ := trodAll_cons hA
  obtain ⟨v1, vs1, d1, ds1, p1, q1, rfl, rfl, rfl, h1, r1⟩ := trodAll_cons r0
  obtain ⟨v2, vs2, d2, ds2, p2, q2, rfl, rfl, rfl, h2, r2⟩ := trodAll_cons r1
  obtain ⟨v3, vs3, d3, ds3, p3, q3, rfl, rfl, rfl, h3, r3⟩ := trodAll_cons r2
  obtain ⟨rfl, rfl, rfl⟩ := trodAll_nil r3
  obtain rfl : args = #[v0, v1, v2, v3] := by cases args; simp_all
  obtain ⟨rfl, rfl⟩ := trodVars_none hV
  obtain ⟨a0, rfl, rfl, rfl, w0⟩ := open_int Try.underlying3 (hval 0 3 v0 rfl rfl) h0
  obtain ⟨a1, xs1, c1, rfl, w1⟩ := open_ops (hval 1 22 v1 rfl rfl) h1
  obtain ⟨a2, rfl, rfl, rfl, w2⟩ := open_string Try.underlying9 (hval 2 9 v2 rfl rfl) h2
  obtain ⟨a3, rfl, rfl, rfl, w3⟩ := open_int Try.underlying3 (hval 3 3 v3 rfl rfl) h3
  refine (walk a0 a1 xs1 c1 a2 a3 w0 w1 w2 w3 W rfl).mono fun e W' ⟨he, hb⟩ => ?_
  subst he
  exact ⟨_, rfl, law_post (by kernel_rfl) (by decide +kernel) rfl rfl Try.underlying4 hW' hb ⟨rfl, rfl, rfl⟩⟩

theorem over : Rows.fifoPartsRow.holds Try.pinned (OpenSpec.ofChange Rows.fifoPartsSpec) :=
  OpenClaim.holds_of_wide 5 Try.f5 rfl rfl rfl rfl rfl rfl rfl ⟨rfl, rfl, rfl, rfl, rfl⟩ rfl rfl rfl rfl rfl (by kernel_rfl) Try.func5 (by kernel_rfl)
    (of_decide_eq_true (by kernel_rfl)) (by unfold Func.isWrapper; first | (rw [if_pos (by decide +kernel)]; kernel_rfl) | (rw [if_neg (by decide +kernel)]; exact ⟨rfl, rfl⟩))
    (fun os started H enc _ => lifted os started H enc)

theorem proved : Rows.FifoPartsSaid := over
end fifoParts
end Go.Proofs.Ythngchdfbcpciaa
