/- FifoFull: a queue that is full takes nothing, and one that is empty gives nothing: for every capacity and text. No condition. -/
import Derived.Test.YthngchdfbcpciaaFifoJ
import Derived.Test.YthngchdfbcpciaaLaw
namespace Go.Proofs.Ythngchdfbcpciaa
open Go.RowKit

set_option maxHeartbeats 400000 in
theorem push_nil (s : ByteArray) (w : World) (hs : s.size ≤ maxLen) :
    Calls Try.prog 13 #[.pointer none, .string s] w fun e w' => e = .returned (.int .i64 0) ∧ Keeps [] w w' := by
  have ht : s.extract 0 (min s.size 0) = ⟨#[]⟩ := by simp; rfl
  have HT := Lib.hid ht
  clear ht
  go_enter Try.func13, Try.ntmps13
  go_wp2_with (first | (go_at_call 17; refine (room_nil _).mono ?_; rintro e w' ⟨rfl, rfl⟩) | (go_at_call 21; refine (cut_eq s ⟨#[]⟩ 0 _ _ HT.out _ ?_ ?_ ?_).mono ?_ <;> first | exact (Blk.new _ _ _).cell 0 | omega | assumption | (rintro e w' ⟨rfl, rfl⟩)))
  go_loop [6, 14] (fun _ i => i = .int .i64 0) (fun _ _ => 0)
  case atStart => rfl
  case round =>
    obtain rfl := hrel
    go_wp2
    go_ret
    exact ⟨rfl, (Keeps.refl [] w).alloc _⟩

namespace fifoFull
open Go.ChangeShapes Go.WideShapes Go.ChangeAt
open Go.ChangeMaps (open_string shut_string)

theorem walk_bad (n : Int) (s : ByteArray) (w : World) (h : n < 1 ∨ 4096 < n) (hs : s.size ≤ maxLen) :
    Calls Try.prog 7 #[.int .i64 n, .string s] w fun e w' => e = .returned (.bool true) ∧ Below w.heap.size w w' := by
  have HS := Lib.hid hs
  unfold maxLen at hs
  go_enter Try.func7, Try.ntmps7
  go_wp2_with (fail)
  refine (shown_any _).mono ?_
  rintro e w1 ⟨rfl, hk1⟩
  have HK1 := Lib.hid hk1
  clear hk1
  go_wp2_with (first | (go_at_call 10; refine (new_bad n _ h).mono ?_; rintro e w' ⟨rfl, rfl⟩) | (go_at_call 13; refine (push_nil _ _ ?_).mono ?_ <;> first | (rintro e w2 ⟨rfl, hk2⟩; have HK2 := Lib.hid hk2; clear hk2) | (unfold maxLen; simp; omega)))
  all_goals go_ret
  all_goals exact ⟨rfl, (HK1.out.trans HK2.out).below (Nat.le_refl _) (by simp)⟩

/-- Five thousand, behind a name. -/
def big : Nat := 5000
theorem big_is : big = 5000 := rfl
def zeroes : List UInt8 := List.replicate big 0
def zeroText : ByteArray := str zeroes
theorem zeroes_length : zeroes.length = big := List.length_replicate
theorem zeroText_size : zeroText.size = big := by rw [zeroText, str_size, zeroes_length]
def bigRow : Obj := .cells (madeCells #[.int .u8 0] big) 5

theorem run_zeroes (n : Nat) (w : World) : (convert 45 9 (.slice (some ⟨w.heap.size, 0, none⟩) n n)).run Try.prog (w.alloc (.cells (madeCells #[.int .u8 0] n) 5)) = .ok (.string (str (List.replicate n 0))) (w.alloc (.cells (madeCells #[.int .u8 0] n) 5)) := by
  have hb := Blk.new w 5 (madeCells #[.int .u8 0] n)
  have := run_convert_bytes_back (P := Try.prog) (w.alloc (.cells (madeCells #[.int .u8 0] n) 5)) 45 9 5 ⟨w.heap.size, 0, none⟩ n (List.replicate n 0) Try.underlying45 Try.underlying5 Try.underlying9 (fun j hj => by
    rw [show ((⟨w.heap.size, 0, none⟩ : Addr).add j) = ⟨w.heap.size, j, none⟩ by unfold Addr.add; split <;> simp_all, hb.cell]
    rw [List.length_replicate] at hj
    rw [Array.getElem?_eq_getElem (by rw [size_madeCells]; omega)]
    simp [madeCells, Nat.mod_one])
  rw [List.length_replicate] at this
  exact this
theorem run_zero (w : World) : (convert 45 9 (.slice (some ⟨w.heap.size, 0, none⟩) big big)).run Try.prog (w.alloc bigRow) = .ok (.string zeroText) (w.alloc bigRow) := run_zeroes big w
theorem run_makeBig (W' : World) : (Instr.makeSlice 45 (.int .i64 5000) (.int .i64 5000)).run Try.prog W' = .ok (.slice (some ⟨W'.heap.size, 0, none⟩) big big) (W'.alloc bigRow) := by
  obtain ⟨i0, hi, hz0, hz1, hz2⟩ := info_parts tu8_info
  have := run_make_rowN (P := Try.prog) 45 5 i0 _ Try.underlying45 hi hz0 .i64 .i64 big big (Nat.le_refl _) (by rw [hz2, big_is]; omega) (by rw [big_is]; omega) W'
  rw [hz1, Nat.mul_one] at this
  exact this

set_option maxRecDepth 100000 in
set_option maxHeartbeats 2000000 in
theorem walk_good (cap : Nat) (s : ByteArray) (w : World) (hc1 : 1 ≤ cap) (hc2 : cap ≤ 4096) (hs : s.size ≤ maxLen) :
    Calls Try.prog 7 #[.int .i64 cap, .string s] w fun e w' => e = .returned (.bool true) ∧ Below w.heap.size w w' := by
  unfold maxLen at hs
  have hmk := run_makeBig
  have hcv := run_zero
  have hzs : zeroText.size ≤ 1000000 := by rw [zeroText_size, big_is]; omega
  have hzl : (zeroes.take cap).length = cap := by rw [List.length_take, zeroes_length, big_is]; omega
  have HZL := Lib.hid hzl
  clear hzl
  go_enter Try.func7, Try.ntmps7
  go_wp2_with (fail)
  refine (shown_any _).mono ?_
  rintro e w1 ⟨rfl, hk1⟩
  have HK1 := Lib.hid hk1
  clear hk1
  go_wp2_with (go_at_call 10; refine (new_ok cap _ hc1 hc2).mono ?_; rintro e w2 ⟨rfl, hf2, hk2, -⟩; have HF2 := Lib.hid hf2; have HK2 := Lib.hid (HK1.out.trans hk2); clear hf2 hk2)
  all_goals
    go_wp2_with (fail)
    refine (pop_eq _ _ cap [] 9 ⟨#[]⟩ rfl _ HF2.out).mono ?_
    rintro e w3 ⟨rfl, hf3, hk3⟩
    have HF3 : Hid (Fi w3 (w1.heap.size + 1) w1.heap.size cap []) := hf3
    have HK3 := Lib.hid (HK2.out.trans' hk3 (by have := HK1.out.size; simp; omega))
    clear hf3 hk3
    go_wp2_with (fail)
    refine (push_eq _ _ cap cap [] (zeroes.take cap) zeroText (by rw [zeroText_size, big_is]; simp; omega) (by rw [zeroText, str_toList]; rfl) _ (HF3.out.keeps ((Keeps.refl [] _).alloc _) (by simp) (by simp)) hzs).mono ?_
    rintro e w4 ⟨rfl, hf4, hk4⟩
    have HF4 := Lib.hid hf4
    have HK4 := Lib.hid ((HK3.out.alloc bigRow).trans' hk4 (by have := HK1.out.size; simp; omega))
    clear hf4 hk4
    go_wp2_with (fail)
    refine (push_eq _ _ cap 0 (zeroes.take cap) (zeroes.take cap) _ (by rw [HZL.out]; simp) (by simp) _ HF4.out (by first | omega | (simp; omega))).mono ?_
    rintro e w5 ⟨rfl, hf5, hk5⟩
    have HF5 := Lib.hid hf5
    have HK5 := Lib.hid (HK4.out.trans' hk5 (by have := HK1.out.size; simp; omega))
    clear hf5 hk5
    go_wp2_with (first | (go_at_call 12; refine (len_eq _ _ cap cap _ HZL.out _ HF5.out).mono ?_; rintro e w' ⟨rfl, rfl⟩) | (go_at_call 19; refine (clear_eq _ _ cap cap _ HZL.out _ HF5.out).mono ?_; rintro e w6 ⟨rfl, hf6, hk6⟩; have HF6 := Lib.hid hf6; have HK6 := Lib.hid hk6; clear hf6 hk6) | (go_at_call 18; refine (peek_eq _ _ cap [] 9 ⟨#[]⟩ rfl _ HF6.out).mono ?_; rintro e w7 ⟨rfl, hk7⟩; have HK7 := Lib.hid hk7; clear hk7) | (go_at_call 17; refine (room_eq _ _ cap cap [] rfl _ (HF6.out.keeps HK7.out (by simp) (by simp))).mono ?_; rintro e w' ⟨rfl, n8, rfl⟩))
    go_ret
    exact ⟨rfl, (((HK5.out.trans' HK6.out (by have := HK1.out.size; simp; omega)).trans HK7.out).drewN _).below (Nat.le_refl _) (by simp)⟩

theorem walk (n : Int) (s : ByteArray) (hs : s.size ≤ maxLen) (w : World) :
    Calls Try.prog 7 #[.int .i64 n, .string s] w fun e w' => e = .returned (.bool true) ∧ Below w.heap.size w w' := by
  by_cases h : n < 1 ∨ 4096 < n
  · exact walk_bad n s w h hs
  · obtain ⟨k, rfl⟩ : ∃ k : Nat, n = k := ⟨n.toNat, by omega⟩
    exact walk_good k s w (by omega) (by omega) hs

theorem own : ownKnob Try.prog.godebug = none := by kernel_rfl

set_option maxRecDepth 100000 in
theorem lifted (os : Os) (started : os.Started) (H : Type) (enc : TypeId × Value → H) :
    ReturnsInHanded {} Try.checked os 7 .any (Rows.fifoFullSpec.pre6 enc Try.prog Try.f7 Rows.fifoFullRow.domain false) (Rows.fifoFullSpec.post enc Try.prog Try.f7 false true false false) := by
  refine returnsInHanded_of_change (C := Try.checked) own started (by kernel_rfl) Try.func7
    (ChangeSpec.witness6 (enc := enc) (C := Try.checked) false ⟨#[], #[.int .i64 0, .string ByteArray.empty], []⟩ 8 (by kernel_rfl) (by kernel_rfl) (by kernel_rfl) (by kernel_rfl)) ?_
  intro W base args ds gs before hval0 hW hcnd _
  have hval : ∀ (j : Nat) t v, Try.f7.params[j]? = some t → args[j]? = some v → Value.okWide Try.prog W .any base t v := hval0
  have hW' := hW
  obtain ⟨p, q, hA0, hV, rfl, hfz, hnd⟩ := hW
  have hA : DataW.TrodAll enc Try.prog W 0 (fun _ => true) true Try.f7.params.toList args.toList ds p := hA0
  rw [Try.params7] at hA hval
  obtain ⟨v0, vs0, d0, ds0, p0, q0, hargs, rfl, rfl, h0, r0⟩ := trodAll_cons hA
  obtain ⟨v1, vs1, d1, ds1, p1, q1, rfl, rfl, rfl, h1, r1⟩ := trodAll_cons r0
  obtain ⟨rfl, rfl, rfl⟩ := trodAll_nil r1
  obtain rfl : args = #[v0, v1] := by cases args; simp_all
  obtain ⟨rfl, rfl⟩ := trodVars_none hV
  obtain ⟨a0, rfl, rfl, rfl, w0⟩ := open_int Try.underlying3 (hval 0 3 v0 rfl rfl) h0
  obtain ⟨a1, rfl, rfl, rfl, w1⟩ := open_string Try.underlying9 (hval 1 9 v1 rfl rfl) h1
  refine (walk a0 a1 w1 W).mono fun e W' ⟨he, hb⟩ => ?_
  subst he
  exact ⟨_, rfl, law_post (by kernel_rfl) (by decide +kernel) rfl rfl Try.underlying4 hW' hb ⟨rfl, rfl, rfl⟩⟩

theorem over : Rows.fifoFullRow.holds Try.pinned (OpenSpec.ofChange Rows.fifoFullSpec) :=
  OpenClaim.holds_of_wide 7 Try.f7 rfl rfl rfl rfl rfl rfl rfl ⟨rfl, rfl, rfl, rfl, rfl⟩ rfl rfl rfl rfl rfl (by kernel_rfl) Try.func7 (by kernel_rfl)
    (of_decide_eq_true (by kernel_rfl)) (by unfold Func.isWrapper; first | (rw [if_pos (by decide +kernel)]; kernel_rfl) | (rw [if_neg (by decide +kernel)]; exact ⟨rfl, rfl⟩))
    (fun os started H enc _ => lifted os started H enc)

theorem proved : Rows.FifoFullSaid := over
end fifoFull
end Go.Proofs.Ythngchdfbcpciaa
