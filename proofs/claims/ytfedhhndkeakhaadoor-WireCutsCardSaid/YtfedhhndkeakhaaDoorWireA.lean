/- The walks of the wire's small functions. -/
import Derived.Test.YtfedhhndkeakhaaDoorWireP
import Derived.Test.YtfedhhndkeakhaaDoorErr
import Derived.Test.YtfedhhndkeakhaaDoorMapI
import Derived.Test.YtfedhhndkeakhaaDoorIter
namespace Go.Proofs.YtfedhhndkeakhaaDoor
open Go.RowKit
attribute [local go_sem ↓] Go.wp_at_zero Go.wp_at_succ

/-- The sentinels of the wire. -/
def Env (w : World) (e : Nat → Addr) : Prop := Sents w 90 [0, 1, 2, 3, 4] e
theorem Env.keep {w w' : World} {e : Nat → Addr} (h : Env w e) (hk : Keeps [] w w') : Env w' e := Sents.keep h hk
/-- An error's number. -/
def toldN : Option Nat → Int
  | none => 0
  | some 0 => 33
  | some 1 => 2
  | some 2 => 30
  | some 3 => 31
  | some _ => 32

set_option maxHeartbeats 1000000 in
theorem told_any (x : Option Nat) (e : Nat → Addr) (hx : ∀ y, x = some y → y < 5) (w : World) (h : Env w e) :
    Calls Tryd.prog 27 #[errV e x] w fun r w' => r = .returned (.int .i64 (toldN x)) ∧ w = w' := by
  have c0 := h.cell 0 (by simp)
  have c1 := h.cell 1 (by simp)
  have c2 := h.cell 2 (by simp)
  have c3 := h.cell 3 (by simp)
  have c4 := h.cell 4 (by simp)
  have hg : ∀ g, g < 5 → ∀ b, (x == some g) = b → Calls Tryd.prog 34 #[errV e x, .iface 90 (.pointer (some (e g)))] w fun r w' => r = .returned (.bool b) ∧ w = w' := fun g hg b hb =>
    is_own h x g (fun y hy => by have := hx y hy; simp; omega) (by simp; omega) b hb
  have HG := Lib.hid hg
  have hc : x = none ∨ x = some 0 ∨ x = some 1 ∨ x = some 2 ∨ x = some 3 ∨ x = some 4 := by
    cases x with
    | none => exact .inl rfl
    | some y =>
      have := hx y rfl
      have h5 : y = 0 ∨ y = 1 ∨ y = 2 ∨ y = 3 ∨ y = 4 := by omega
      rcases h5 with rfl | rfl | rfl | rfl | rfl <;> simp
  clear hg h hx
  go_enter Tryd.func27, Tryd.ntmps27
  go_wp2_with (fail)
  rcases hc with rfl | rfl | rfl | rfl | rfl | rfl
  · refine (HG.out 1 (by omega) false rfl).mono ?_
    rintro r w' ⟨rfl, rfl⟩
    go_wp2_with (fail)
    refine (HG.out 2 (by omega) false rfl).mono ?_
    rintro r w' ⟨rfl, rfl⟩
    go_wp2_with (fail)
    refine (HG.out 3 (by omega) false rfl).mono ?_
    rintro r w' ⟨rfl, rfl⟩
    go_wp2_with (fail)
    refine (HG.out 4 (by omega) false rfl).mono ?_
    rintro r w' ⟨rfl, rfl⟩
    go_wp2_with (fail)
    refine (HG.out 0 (by omega) false rfl).mono ?_
    rintro r w' ⟨rfl, rfl⟩
    go_wp2_with (fail)
    go_ret
    exact ⟨rfl, rfl⟩
  · refine (HG.out 1 (by omega) false rfl).mono ?_
    rintro r w' ⟨rfl, rfl⟩
    go_wp2_with (fail)
    refine (HG.out 2 (by omega) false rfl).mono ?_
    rintro r w' ⟨rfl, rfl⟩
    go_wp2_with (fail)
    refine (HG.out 3 (by omega) false rfl).mono ?_
    rintro r w' ⟨rfl, rfl⟩
    go_wp2_with (fail)
    refine (HG.out 4 (by omega) false rfl).mono ?_
    rintro r w' ⟨rfl, rfl⟩
    go_wp2_with (fail)
    refine (HG.out 0 (by omega) true rfl).mono ?_
    rintro r w' ⟨rfl, rfl⟩
    go_wp2_with (fail)
    go_ret
    exact ⟨rfl, rfl⟩
  · refine (HG.out 1 (by omega) true rfl).mono ?_
    rintro r w' ⟨rfl, rfl⟩
    go_wp2_with (fail)
    go_ret
    exact ⟨rfl, rfl⟩
  · refine (HG.out 1 (by omega) false rfl).mono ?_
    rintro r w' ⟨rfl, rfl⟩
    go_wp2_with (fail)
    refine (HG.out 2 (by omega) true rfl).mono ?_
    rintro r w' ⟨rfl, rfl⟩
    go_wp2_with (fail)
    go_ret
    exact ⟨rfl, rfl⟩
  · refine (HG.out 1 (by omega) false rfl).mono ?_
    rintro r w' ⟨rfl, rfl⟩
    go_wp2_with (fail)
    refine (HG.out 2 (by omega) false rfl).mono ?_
    rintro r w' ⟨rfl, rfl⟩
    go_wp2_with (fail)
    refine (HG.out 3 (by omega) true rfl).mono ?_
    rintro r w' ⟨rfl, rfl⟩
    go_wp2_with (fail)
    go_ret
    exact ⟨rfl, rfl⟩
  · refine (HG.out 1 (by omega) false rfl).mono ?_
    rintro r w' ⟨rfl, rfl⟩
    go_wp2_with (fail)
    refine (HG.out 2 (by omega) false rfl).mono ?_
    rintro r w' ⟨rfl, rfl⟩
    go_wp2_with (fail)
    refine (HG.out 3 (by omega) false rfl).mono ?_
    rintro r w' ⟨rfl, rfl⟩
    go_wp2_with (fail)
    refine (HG.out 4 (by omega) true rfl).mono ?_
    rintro r w' ⟨rfl, rfl⟩
    go_wp2_with (fail)
    go_ret
    exact ⟨rfl, rfl⟩

theorem num2_not (s : ByteArray) (h : s.size ≠ 2) : num2 s = 0 := by
  unfold num2
  have : s.data.toList.length ≠ 2 := h
  match hl : s.data.toList with
  | [] => rfl
  | [_] => rfl
  | [_, _] => rw [hl] at this; exact absurd rfl this
  | _ :: _ :: _ :: _ => rfl
theorem size2 (s : ByteArray) (h : s.size = 2) : ∃ a b, s = ⟨#[a, b]⟩ := by
  obtain ⟨⟨l⟩⟩ := s
  match l, h with
  | [a, b], _ => exact ⟨a, b, rfl⟩

theorem num_w (a b : UInt8) : wrap64 (wrap64 (wrap64 (a.toNat : Int) * 256) + wrap64 (b.toNat : Int)) = num2 ⟨#[a, b]⟩ := by
  have ha := a.toNat_lt
  have hb := b.toNat_lt
  show _ = (a.toNat : Int) * 256 + b.toNat
  rw [IntWalk.wrap64_in (a.toNat : Int) ⟨by omega, by omega⟩, IntWalk.wrap64_in (b.toNat : Int) ⟨by omega, by omega⟩, IntWalk.wrap64_in ((a.toNat : Int) * 256) ⟨by omega, by omega⟩, IntWalk.wrap64_in _ ⟨by omega, by omega⟩]
theorem num_w2 (a b : UInt8) : wrap64 (wrap64 (256 * wrap64 (a.toNat : Int)) + wrap64 (b.toNat : Int)) = num2 ⟨#[a, b]⟩ := by
  rw [← num_w, Int.mul_comm]

theorem number_any (s : ByteArray) (hs : s.size ≤ maxLen) (w : World) :
    Calls Tryd.prog 21 #[.string s] w fun r w' => r = .returned (.int .i64 (num2 s)) ∧ ∃ n, w.drewN n = w' := by
  by_cases h : s.size = 2
  · obtain ⟨a, b, rfl⟩ := size2 s h
    clear h hs
    go_enter Tryd.func21, Tryd.ntmps21
    go_wp2
    go_quiet (fail)
    go_wp2
    go_ret
    exact ⟨ret_int (num_w a b), _, rfl⟩
  · rw [num2_not s h]
    unfold maxLen at hs
    have h2 : ((s.size : Int) == 2) = false := by simp; omega
    clear h
    go_enter Tryd.func21, Tryd.ntmps21
    go_wp2
    go_ret
    exact ⟨rfl, 0, rfl⟩

theorem rnumber_any (s : ByteArray) (hs : s.size ≤ maxLen) (w : World) :
    Calls Tryd.prog 22 #[.string s] w fun r w' => r = .returned (.int .i64 (num2 s)) ∧ ∃ n, w.drewN n = w' := by
  by_cases h : s.size = 2
  · obtain ⟨a, b, rfl⟩ := size2 s h
    clear h hs
    go_enter Tryd.func22, Tryd.ntmps22
    go_wp2
    go_quiet (fail)
    go_wp2
    go_ret
    exact ⟨ret_int (num_w2 a b), _, rfl⟩
  · rw [num2_not s h]
    unfold maxLen at hs
    have h2 : ((s.size : Int) == 2) = false := by simp; omega
    clear h
    go_enter Tryd.func22, Tryd.ntmps22
    go_wp2
    go_ret
    exact ⟨rfl, 0, rfl⟩

/-- The map of spans, as it is made. -/
def spanE (k lo hi : Int) (n : Nat) : MapEntry := { key := .int .i64 k, val := .agg #[.int .i64 lo, .int .i64 hi], born := n }
def spanEs : Array MapEntry := #[spanE 1 1 64 0, spanE 2 32 32 1, spanE 3 1 64 2, spanE 4 1 512 3, spanE 5 2 2 4, spanE 6 0 0 5, spanE 7 0 0 6, spanE 8 0 8 7]
theorem span_put (es : Array MapEntry) (c : Nat) (k lo hi : Int) (hf : Instr.findNow (.int .i64) (.int .i64 k) es.toList 0 = some none) (w : World) :
    (Instr.mapUpdate 59 (.map (some w.heap.size)) (.int .i64 k) (.agg #[.int .i64 lo, .int .i64 hi])).run Tryd.prog (w.alloc (.map es c)) = .ok () (w.alloc (.map (es.push (spanE k lo hi c)) (c + 1))) :=
  run_mapUpdate_last Tryd.underlying59 Tryd.underlying3 rfl hf

theorem spans_any (w : World) :
    Calls Tryd.prog 31 #[] w fun r w' => r = .returned (.map (some w.heap.size)) ∧ w.alloc (.map spanEs 8) = w' := by
  have hm := fun W => run_makeMap (P := Tryd.prog) 59 W
  have h1 := span_put #[] 0 1 1 64 rfl w
  have h2 := span_put #[spanE 1 1 64 0] 1 2 32 32 rfl w
  have h3 := span_put #[spanE 1 1 64 0, spanE 2 32 32 1] 2 3 1 64 rfl w
  have h4 := span_put #[spanE 1 1 64 0, spanE 2 32 32 1, spanE 3 1 64 2] 3 4 1 512 rfl w
  have h5 := span_put #[spanE 1 1 64 0, spanE 2 32 32 1, spanE 3 1 64 2, spanE 4 1 512 3] 4 5 2 2 rfl w
  have h6 := span_put #[spanE 1 1 64 0, spanE 2 32 32 1, spanE 3 1 64 2, spanE 4 1 512 3, spanE 5 2 2 4] 5 6 0 0 rfl w
  have h7 := span_put #[spanE 1 1 64 0, spanE 2 32 32 1, spanE 3 1 64 2, spanE 4 1 512 3, spanE 5 2 2 4, spanE 6 0 0 5] 6 7 0 0 rfl w
  have h8 := span_put #[spanE 1 1 64 0, spanE 2 32 32 1, spanE 3 1 64 2, spanE 4 1 512 3, spanE 5 2 2 4, spanE 6 0 0 5, spanE 7 0 0 6] 7 8 0 8 rfl w
  simp only [List.push_toArray, List.nil_append, List.cons_append, Nat.reduceAdd] at h1 h2 h3 h4 h5 h6 h7 h8
  go_enter Tryd.func31, Tryd.ntmps31
  go_wp2
  go_ret
  exact ⟨rfl, rfl⟩

theorem has_any (lo hi n : Int) (b : Bool) (hb : (decide (lo ≤ n) && decide (n ≤ hi)) = b) (w : World) :
    Calls Tryd.prog 30 #[.agg #[.int .i64 lo, .int .i64 hi], .int .i64 n] w fun r w' => r = .returned (.bool b) ∧ w.alloc (.cells #[.int .i64 lo, .int .i64 hi] 57) = w' := by
  subst hb
  by_cases h : lo ≤ n
  · have h1 : decide (lo ≤ n) = true := decide_eq_true h
    rw [h1]
    obtain ⟨q, hq⟩ : ∃ q, decide (n ≤ hi) = q := ⟨_, rfl⟩
    rw [hq]
    clear h
    go_enter Tryd.func30, Tryd.ntmps30
    go_wp2
    go_ret
    exact ⟨rfl, rfl⟩
  · have h1 : decide (lo ≤ n) = false := decide_eq_false h
    rw [h1]
    clear h
    go_enter Tryd.func30, Tryd.ntmps30
    go_wp2
    go_ret
    exact ⟨rfl, rfl⟩

theorem isOwn_any (k : Int) (w : World) : Calls Tryd.prog 32 #[.int .i64 k] w fun r w' => r = .returned (.bool (ownK k)) ∧ w = w' := by
  unfold ownK
  cases h1 : k == 1 with
  | true =>
    go_enter Tryd.func32, Tryd.ntmps32
    go_wp2
    go_ret
    exact ⟨rfl, rfl⟩
  | false =>
    cases h2 : k == 2 with
    | true =>
      go_enter Tryd.func32, Tryd.ntmps32
      go_wp2
      go_ret
      exact ⟨rfl, rfl⟩
    | false =>
      cases h8 : k == 8 with
      | true =>
        go_enter Tryd.func32, Tryd.ntmps32
        go_wp2
        go_ret
        exact ⟨rfl, rfl⟩
      | false =>
        go_enter Tryd.func32, Tryd.ntmps32
        go_wp2
        go_ret
        exact ⟨rfl, rfl⟩
end Go.Proofs.YtfedhhndkeakhaaDoor
