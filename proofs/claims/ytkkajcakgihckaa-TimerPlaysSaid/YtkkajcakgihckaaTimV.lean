/- The walks of slices.Values, Collect, AppendSeq at a timer's entries. -/
import Derived.Test.YtkkajcakgihckaaTimM
import Derived.Test.YtkkajcakgihckaaTimN
namespace Go.Proofs.Ytkkajcakgihckaa
open Go.RowKit Go.Shelf
attribute [local go_sem] Oper.semAt_some
attribute [local go_sem ↓] Go.wp_at_zero Go.wp_at_succ

def encP (b : Nat) : Array Value := #[.pointer (some ⟨b, 0, none⟩)]
def blks (y : Nat → Nat) (N : Nat) : List Nat := (List.range N).map y
theorem blks_succ (y : Nat → Nat) (k : Nat) : blks y (k + 1) = blks y k ++ [y k] := by simp [blks, List.range_succ]
theorem blks_prefix (y : Nat → Nat) {k N : Nat} (h : k ≤ N) : blks y k <+: blks y N := by
  obtain ⟨m, rfl⟩ : ∃ m, N = k + m := ⟨N - k, by omega⟩
  clear h
  induction m with
  | zero => exact List.prefix_refl _
  | succ m ih => exact ih.trans ⟨[y (k + m)], (blks_succ y (k + m)).symm⟩

set_option maxRecDepth 100000 in
set_option maxHeartbeats 1000000 in
theorem vals1_in (n l q g N c : Nat) (a : Option Addr) (y : Nat → Nat) (ha : 0 < N → a = some ⟨g, 0, none⟩) (hN : N ≤ 64) (J : List Nat → World → Prop) (W : World)
    (hY : ∀ pre z W1, J pre W1 → pre ++ [z] <+: blks y N → YieldAt Fence.wide (n - 1) Try.prog l (encP z) W1 fun e W' => e = .returned (.bool true) ∧ J (pre ++ [z]) W' ∧ W1.heap.size ≤ W'.heap.size ∧ ∀ k ∈ [q, g], W'.heap[k]? = W1.heap[k]?)
    (hq : W.cell? ⟨q, 0, none⟩ = some (.slice a N c)) (hr : ∀ k, k < N → W.cell? ⟨g, k, none⟩ = some (.pointer (some ⟨y k, 0, none⟩))) (h0 : J [] W) :
    CallsIn Fence.wide n Try.prog 39 #[.func (.yield l) #[] #[], .pointer (some ⟨q, 0, none⟩)] W fun e W' => (∃ v, e = .returned v) ∧ J (blks y N) W' ∧ (∀ x ∈ [q, g], W'.heap[x]? = W.heap[x]?) := by
  have HY := Lib.hid hY
  have HR := Lib.hid hr
  have H0 : Hid (J (blks y 0) W) := Lib.hid h0
  have HA := Lib.hid ha
  clear hY h0 hr ha
  have hn1 : Fence.wide.depth.isSome = true → 1 ≤ n := by intro h; cases h
  refine callsIn_of_wp Try.func39 rfl trivial ?_ rfl
  simp only [Try.ntmps39, List.size_toArray, List.length_cons, List.length_nil, Nat.reduceAdd, Nat.reduceSub, Array.replicate_succ, Array.replicate_zero, List.push_toArray, List.append_toArray, List.nil_append, List.cons_append]
  gi_wp2
  gi_loopw [7] (fun i wr => ∃ k : Nat, i = .int .i64 k ∧ k ≤ N ∧ Hid (J (blks y k) wr) ∧ Hid (∀ x ∈ [q, g], wr.heap[x]? = W.heap[x]?)) (fun i _ => N - (intOf i).toNat)
  case atStart => exact ⟨0, rfl, Nat.zero_le _, H0, Lib.hid (fun _ _ => rfl)⟩
  case round =>
    obtain ⟨k, rfl, hk, HJ, HS⟩ := hrel
    clear H0
    by_cases hlt : k < N
    · obtain rfl := HA.out (by omega)
      have i0 : (0 : Int) ≤ (k : Int) := by omega
      have i1 : (k : Int) < (N : Int) := by omega
      have hc : wr.cell? ⟨g, k, none⟩ = some (.pointer (some ⟨y k, 0, none⟩)) := (World.cell?_of_block (a := ⟨g, k, none⟩) (HS.out g (by simp))).trans (HR.out k hlt)
      obtain ⟨z, hz⟩ : ∃ z, y k = z := ⟨_, rfl⟩
      have hpre : blks y k ++ [z] <+: blks y N := by rw [← hz, ← blks_succ]; exact blks_prefix y (by omega)
      obtain ⟨fn, tmps, assign, body, hy1, hR⟩ := HY.out _ z _ HJ.out hpre
      simp only [encP] at hy1
      rw [hz] at hc
      have HZ := Lib.hid hz
      clear hpre hz
      gi_wp2
      refine ⟨hn1, ?_⟩
      refine hR.mono ?_
      rintro e W3 ⟨rfl, hJ3, _, hs3⟩
      have HJ3 : Hid (J (blks y (k + 1)) W3) := Lib.hid (by rw [blks_succ, HZ.out]; exact hJ3)
      have HS3 : Hid (∀ x ∈ [q, g], W3.heap[x]? = W.heap[x]?) := Lib.hid (fun x hx => (hs3 x hx).trans (HS.out x hx))
      clear hR hy1 hJ3 hs3 hc
      gi_wp2
      go_roundw
      case rel => exact ⟨k + 1, by go_num, by omega, HJ3, HS3⟩
      case measure => simp [intOf]; omega
    · obtain rfl : k = N := by omega
      gi_wp2
      go_end0
      exact ⟨⟨_, rfl⟩, HJ.out, HS.out⟩

theorem values_any (a : Option Addr) (N c : Nat) (w : World) :
    Calls Try.prog 30 #[.slice a N c] w fun e w' => e = .returned (.func (.func 39) #[] #[.pointer (some ⟨w.heap.size, 0, none⟩)]) ∧ w.alloc (.cells #[.slice a N c] 53) = w' := by
  go_enter Try.func30, Try.ntmps30
  go_wp2
  go_ret
  exact ⟨rfl, rfl⟩

def ptrB (b : Nat) : Value := .pointer (some ⟨b, 0, none⟩)
/-- A new slice of these entries' pointers. -/
def NewP (w : World) (base : Nat) (v : Value) (ys : List Nat) : Prop := w.ownsRow base 60 1 v ys.length (ys.map ptrB)
theorem NewP.keeps {S : List Nat} {base : Nat} {v : Value} {ys : List Nat} {A A' : World} (h : NewP A base v ys) (hk : Keeps S A A') (hb : ∀ y ∈ S, y < base) : NewP A' base v ys := by
  refine ⟨h.1, ?_⟩
  rcases h.2 with h4 | ⟨g, cap, cur, e, hb', hg, h5⟩
  · exact .inl h4
  · exact .inr ⟨g, cap, cur, e, hb', (hk.block g (Blk.lt (t := 60) (cs := cur) hg) (fun hm => by have := hb g hm; omega)).trans hg, h5⟩
theorem NewP.to {w : World} {a b : Nat} {v : Value} {ys : List Nat} (h : NewP w a v ys) (hb : b ≤ a) : NewP w b v ys := by
  refine ⟨h.1, ?_⟩
  rcases h.2 with h1 | ⟨g, cap, cur, e, hb', h5⟩
  · exact .inl h1
  · exact .inr ⟨g, cap, cur, e, by omega, h5⟩
structure ApP (F : List Nat) (o base : Nat) (w : World) (pre : List Nat) (A : World) : Prop where
  box : ∃ v, Boxed A o 52 v ∧ NewP A base v pre
  k : Keeps F w A
theorem ApP.keeps {F S : List Nat} {o base : Nat} {w : World} {pre : List Nat} {A A' : World} (h : ApP F o base w pre A) (hk : Keeps S A A') (ho : o ∉ S) (hb : ∀ y ∈ S, y < base) (hS : ∀ y ∈ S, y ∈ F ∨ w.heap.size ≤ y) : ApP F o base w pre A' := by
  obtain ⟨⟨v, h1, h2⟩, h3⟩ := h
  exact ⟨⟨v, (hk.block o h1.lt ho).trans h1, h2.keeps hk hb⟩, h3.trans' hk hS⟩

theorem vals1_seq (n q g N c : Nat) (a : Option Addr) (y : Nat → Nat) (ha : 0 < N → a = some ⟨g, 0, none⟩) (hN : N ≤ 64) (w : World) (hq : w.cell? ⟨q, 0, none⟩ = some (.slice a N c)) (hr : ∀ k, k < N → w.cell? ⟨g, k, none⟩ = some (.pointer (some ⟨y k, 0, none⟩))) :
    SeqE Fence.wide n Try.prog 39 #[.pointer (some ⟨q, 0, none⟩)] encP (blks y N) [q, g] (fun A => ∀ x ∈ [q, g], A.heap[x]? = w.heap[x]?) w := fun l J W hW _ hJ hY h0 => by
  have h1 := vals1_in n l q g N c a y ha hN J W hY ((World.cell?_of_block (a := ⟨q, 0, none⟩) (hW q (by simp))).trans hq) (fun k hk => (World.cell?_of_block (a := ⟨g, k, none⟩) (hW g (by simp))).trans (hr k hk)) h0
  exact h1.mono fun e W' h => ⟨h.1, h.2.1, fun x hx => (h.2.2 x hx).trans (hW x hx)⟩

set_option maxRecDepth 100000 in
set_option maxHeartbeats 2000000 in
theorem appendSeq_any (q g N c : Nat) (a : Option Addr) (y : Nat → Nat) (ha : 0 < N → a = some ⟨g, 0, none⟩) (hN : N ≤ 64) (w : World) (hq : w.cell? ⟨q, 0, none⟩ = some (.slice a N c)) (hr : ∀ k, k < N → w.cell? ⟨g, k, none⟩ = some (.pointer (some ⟨y k, 0, none⟩))) (hg : g < w.heap.size) :
    Calls Try.prog 47 #[.slice none 0 0, .func (.func 39) #[] #[.pointer (some ⟨q, 0, none⟩)]] w fun e w' => (∃ v, e = .returned v ∧ NewP w' w.heap.size v (blks y N)) ∧ Keeps [] w w' := by
  have hyl : (blks y N).length ≤ 64 := by unfold blks; simpa using hN
  obtain ⟨ys, hys⟩ : ∃ ys, blks y N = ys := ⟨_, rfl⟩
  rw [hys] at hyl ⊢
  have HYS := Lib.hid hys
  clear hys
  refine (callsIn_wide (n := 9)).1 ?_
  have hql := World.block_lt_of_cell? w _ hq
  dsimp only at hql
  refine callsIn_of_wp_marks Try.func47 rfl trivial ?_ rfl
  simp only [Try.ntmps47, List.size_toArray, List.length_cons, List.length_nil, Nat.reduceAdd, Nat.reduceSub, Array.replicate_succ, Array.replicate_zero, List.push_toArray, List.append_toArray, List.nil_append, List.cons_append]
  gi_wp2_with (fail)
  obtain ⟨i0, hi, hz0, hz1, hz2⟩ := info_parts tpEntry_info
  obtain ⟨W0, hW0⟩ : ∃ W0, (w.alloc (.cells #[.slice none 0 0] 52)) = W0 := ⟨_, rfl⟩
  have hs0 : W0.heap.size = w.heap.size + 1 := by rw [← hW0]; simp
  have hB0 : Below w.heap.size w W0 := by rw [← hW0]; exact (Below.refl _ w).alloc (Nat.le_refl _) _
  have hbox : Boxed W0 w.heap.size 52 (.slice none 0 0) := by rw [← hW0]; exact Boxed.new w 52 _
  have hK0 : Keeps [q, g] w W0 := Keeps.of_below hB0 _
  have hseq := vals1_seq 8 q g N c a y ha hN W0 ((World.cell?_of_block (a := ⟨q, 0, none⟩) (hB0.block q hql)).trans hq) (fun k hk => (World.cell?_of_block (a := ⟨g, k, none⟩) (hB0.block g hg)).trans (hr k hk))
  have hT0 : ∀ x ∈ [q, g], W0.heap[x]? = w.heap[x]? := fun x hx => hB0.block x (by
    simp only [List.mem_cons, List.not_mem_nil, or_false] at hx
    rcases hx with rfl | rfl <;> assumption)
  rw [HYS.out] at hseq
  rw [hW0]
  have hI0 : ApP [q, g] w.heap.size (W0.heap.size + 2) w [] W0 := ⟨⟨_, hbox, World.ownsRow_nil _ _ _ _⟩, hK0⟩
  clear hW0 hbox hq hr ha HYS
  refine wpIn_rangeE rfl (by omega) (gf := 39) (lb := #[.pointer (some ⟨q, 0, none⟩)]) rfl trivial (enters_of Try.func39 (by kernel_rfl) rfl)
    hseq (fun k hk => by
      simp only [List.mem_cons, List.not_mem_nil, or_false] at hk
      rcases hk with rfl | rfl
      · omega
      · omega) (fun _ => rfl)
    (fun pre A => ApP [q, g] w.heap.size (W0.heap.size + 2) w pre A)
    (fun s A A' h hk => h.keeps hk (fun hm => by
      simp only [List.mem_cons, List.not_mem_nil, or_false] at hm
      rcases hm with h1 | h1 | h1 | h1 <;> omega) (fun y hy => by
      simp only [List.mem_cons, List.not_mem_nil, or_false] at hy
      rcases hy with rfl | rfl | rfl | rfl <;> omega) (fun y hy => by
      simp only [List.mem_cons, List.not_mem_nil, or_false] at hy
      rcases hy with rfl | rfl | rfl | rfl
      · right; omega
      · right; omega
      · left; simp
      · left; simp))
    (fun A A' h hb => fun x hx => (hb.block x (by
      simp only [List.mem_cons, List.not_mem_nil, or_false] at hx
      rcases hx with rfl | rfl <;> omega)).trans (h x hx)) hI0
    (fun x => { tmps := #[.slice none 0 0, .func (.func 39) #[] #[.pointer (some ⟨q, 0, none⟩)], .pointer (some ⟨w.heap.size, 0, none⟩), undef, .slice none 0 0, .pointer (some ⟨x, 0, none⟩), .func (.func 39) #[] #[.pointer (some ⟨q, 0, none⟩)], .pointer (some ⟨x, 0, none⟩), undef, undef, undef, undef, undef], defers := [] }) ?assign ?body ?done
  case assign =>
    intro l x W K hK
    unfold encP
    gi_wp2
    exact hK
  case body =>
    rintro l pre x W ⟨⟨v, hv, hrow⟩, hK⟩ hpre hsz
    have hc := hv.cell
    have hpl : pre.length < 64 := by
      obtain ⟨r, hr⟩ := hpre
      have := congrArg List.length hr
      simp at this
      omega
    have hlt' := hv.lt
    have HR := Lib.hid hrow
    have HK := Lib.hid hK
    clear hrow hK hpre hseq hI0
    gi_wp2_with (gi_at_builtin; refine wpListIn_append_own _ rfl _ _ 52 rfl (W0.heap.size + 2) 60 i0 (.pointer none) 1 8 Try.underlying52 hi hz0 hz1 hz2 rfl (by decide) _ _ _ rfl (World.ownsRow.alloc HR.out _) ⟨W.heap.size, 0, none⟩ 1 1 [.pointer (some ⟨x, 0, none⟩)] rfl rfl (cell_one_new _ _ _) (by simp [Value.oneCell']) (by unfold maxLen; omega) (by omega) (by simp; omega) ?_; intro v' w1 hown' hgrow _; obtain ⟨g', cap', rfl⟩ := ownsRow_succ hown'; obtain ⟨hv1, hv2, hr2, hk2, hb2, hs2⟩ := appended_far hv HR.out (by omega) (by omega) hown' hgrow; have hc1 := hv1.cell; have hf1 := hv1.frozen)
    refine ⟨hk2.size, fun k hk => hs2 k ?_ ?_, ⟨⟨_, hv2, ?_⟩, ?_⟩⟩
    · simp only [List.mem_cons, List.not_mem_nil, or_false] at hk
      rcases hk with rfl | rfl | rfl | rfl <;> omega
    · simp only [List.mem_cons, List.not_mem_nil, or_false] at hk
      rcases hk with rfl | rfl | rfl | rfl <;> omega
    · unfold NewP; simpa [ptrB] using hr2
    · exact ⟨hb2.os.trans HK.out.os, hb2.tape.trans HK.out.tape, hb2.output.trans HK.out.output, Nat.le_trans HK.out.size hk2.size, fun k hk hn => (hb2.block k hk).trans (HK.out.block k hk hn)⟩
  case done =>
    rintro W ⟨⟨v, hv, hrow⟩, hK⟩ hT hsz hD
    have hc := hv.cell
    have HR := Lib.hid hrow
    have HK := Lib.hid hK
    have HT := Lib.hid hT
    clear hrow hK hT hseq hI0 hv
    gi_wp2
    refine ⟨by simp, .inl ⟨_, _, rfl, run_takeDeferred hD, ?_⟩⟩
    have hkp : Keeps [W0.heap.size] W (W.putObj W0.heap.size (.deferred none)) := keeps_putObj W _ (by simp)
    refine ⟨_, results_tmp rfl _ _ _, ⟨v, rfl, ?_⟩, Keeps.trans' (S' := [W0.heap.size]) (w := W) ⟨HK.out.os, HK.out.tape, HK.out.output, HK.out.size, fun k hk _ => ?_⟩ hkp (fun k hk => by simp only [List.mem_singleton] at hk; right; omega)⟩
    · exact (NewP.keeps HR.out hkp (by simp)).to (by omega)
    · by_cases hm : k ∈ [q, g]
      · exact (HT.out k hm).trans (hT0 k hm)
      · exact HK.out.block k hk hm

set_option maxRecDepth 100000 in
theorem collect_any (q g N c : Nat) (a : Option Addr) (y : Nat → Nat) (ha : 0 < N → a = some ⟨g, 0, none⟩) (hN : N ≤ 64) (w : World) (hq : w.cell? ⟨q, 0, none⟩ = some (.slice a N c)) (hr : ∀ k, k < N → w.cell? ⟨g, k, none⟩ = some (.pointer (some ⟨y k, 0, none⟩))) (hg : g < w.heap.size) :
    Calls Try.prog 37 #[.func (.func 39) #[] #[.pointer (some ⟨q, 0, none⟩)]] w fun e w' => (∃ v, e = .returned v ∧ NewP w' w.heap.size v (blks y N)) ∧ Keeps [] w w' := by
  have hA := appendSeq_any q g N c a y ha hN w hq hr hg
  clear hq hr ha
  go_enter Try.func37, Try.ntmps37
  go_wp2_with (fail)
  refine hA.mono ?_
  rintro e w' ⟨⟨v, rfl, hv⟩, hk⟩
  have HV := Lib.hid hv
  have HK := Lib.hid hk
  clear hv hk hA
  go_wp2
  go_ret
  exact ⟨⟨_, rfl, HV.out⟩, HK.out⟩
end Go.Proofs.Ytkkajcakgihckaa
