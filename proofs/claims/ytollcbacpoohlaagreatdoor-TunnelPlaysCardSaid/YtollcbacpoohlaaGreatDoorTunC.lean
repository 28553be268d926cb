/- The walks of credit: Right, Left, Grant, Spend. -/
import Derived.Test.YtollcbacpoohlaaGreatDoorMapI
import Derived.Test.YtollcbacpoohlaaGreatDoorChecked
import Derived.Laws.EntriesVeiled
namespace Go.Proofs.YtollcbacpoohlaaGreatDoor
open Go.RowKit

/-- Credit's value. -/
def cval (g s : Nat) : Value := .agg #[.int .i64 g, .int .i64 s]
/-- Is credit right? -/
def okC (g s : Nat) : Bool := decide (s ≤ g) && (decide (g ≤ 1000000000000) && decide (g - s ≤ 65536))

theorem cn_any (g s : Nat) (hs : s ≤ g) (hg : g ≤ 4000000000000) (w : World) :
    Calls Tryz.prog 85 #[.agg #[.int .i64 g, .int .i64 s]] w fun e w' => e = .returned (.int .i64 ((g - s : Nat) : Int)) ∧ Keeps [] w w' := by
  go_enter Tryz.func85, Tryz.ntmps85
  go_wp2
  go_ret
  exact ⟨ret_int (by omega), (Keeps.refl [] w).alloc _⟩

theorem isSpent_any (g s : Nat) (b : Bool) (hb : decide (s ≤ g) = b) (w : World) :
    Calls Tryz.prog 104 #[.agg #[.int .i64 g, .int .i64 s]] w fun e w' => e = .returned (.bool b) ∧ Keeps [] w w' := by
  have h0 : decide ((0 : Int) ≤ (s : Int)) = true := by simp
  go_enter Tryz.func104, Tryz.ntmps104
  go_wp2
  go_ret
  exact ⟨ret_bool (by rw [← hb]), (Keeps.refl [] w).alloc _⟩

theorem isGranted_any (g s : Nat) (b : Bool) (hb : decide (g ≤ 1000000000000) = b) (w : World) :
    Calls Tryz.prog 105 #[.agg #[.int .i64 g, .int .i64 s]] w fun e w' => e = .returned (.bool b) ∧ Keeps [] w w' := by
  go_enter Tryz.func105, Tryz.ntmps105
  go_wp2
  go_ret
  exact ⟨ret_bool (by rw [← hb]; congr 1; simp only [eq_iff_iff]; omega), (Keeps.refl [] w).alloc _⟩

theorem isLeft_any (g s : Nat) (hs : s ≤ g) (hg : g ≤ 4000000000000) (b : Bool) (hb : decide (g - s ≤ 65536) = b) (w : World) :
    Calls Tryz.prog 106 #[.agg #[.int .i64 g, .int .i64 s]] w fun e w' => e = .returned (.bool b) ∧ Keeps [] w w' := by
  go_enter Tryz.func106, Tryz.ntmps106
  go_wp2_with (go_at_call 85; refine (cn_any g s hs hg _).mono ?_; rintro e w' ⟨rfl, hk⟩)
  go_ret
  exact ⟨ret_bool (by rw [← hb]; congr 1; simp only [eq_iff_iff]; omega), ((Keeps.refl [] w).alloc _).trans ‹_›⟩

def ruleE (k : Int) (f : Nat) (n : Nat) : MapEntry := { key := .int .i64 k, val := .func (.func f) #[] #[], born := n }
def ruleEs : Array MapEntry := #[ruleE 0 104 0, ruleE 1 105 1, ruleE 2 106 2]
theorem rule_put (es : Array MapEntry) (c : Nat) (k : Int) (f : Nat) (hf : Instr.findNow (.int .i64) (.int .i64 k) es.toList 0 = some none) (w : World) :
    (Instr.mapUpdate 152 (.map (some w.heap.size)) (.int .i64 k) (.func (.func f) #[] #[])).run Tryz.prog (w.alloc (.map es c)) = .ok () (w.alloc (.map (es.push (ruleE k f c)) (c + 1))) :=
  run_mapUpdate_last Tryz.underlying152 Tryz.underlying3 rfl hf
theorem rules_any (w : World) :
    Calls Tryz.prog 100 #[] w fun r w' => r = .returned (.map (some w.heap.size)) ∧ w.alloc (.map ruleEs 3) = w' := by
  have hm := fun W => run_makeMap (P := Tryz.prog) 152 W
  have h1 := rule_put #[] 0 0 104 rfl w
  have h2 := rule_put #[ruleE 0 104 0] 1 1 105 rfl w
  have h3 := rule_put #[ruleE 0 104 0, ruleE 1 105 1] 2 2 106 rfl w
  simp only [List.push_toArray, List.nil_append, List.cons_append, Nat.reduceAdd] at h1 h2 h3
  go_enter Tryz.func100, Tryz.ntmps100
  go_wp2
  go_ret
  exact ⟨rfl, rfl⟩
theorem rule_look (k : Nat) (f : Nat) (i : Nat) (hf : Instr.findNow (.int .i64) (.int .i64 k) ruleEs.toList 0 = some (some (i, .func (.func f) #[] #[]))) (b : Nat) (w : World) (hb : w.heap[b]? = some (.map ruleEs 3)) :
    (Instr.lookup 152 (.map (some b)) (.int .i64 k) false).run Tryz.prog w = .ok (.func (.func f) #[] #[]) w :=
  (run_lookup_hit Tryz.underlying152 Tryz.underlying3 hb (by simp [MapKept.IsKey]) hf).2

theorem rule_len (b : Nat) (w : World) (hb : w.heap[b]? = some (.map ruleEs 3)) : (Builtin.len_ #[152] 3 #[.map (some b)]).run Tryz.prog w = .ok (.int .i64 3) w := by
  simp [Builtin.len_, run_underlying Tryz.underlying152, MapKept.run_getObj_map hb, goInt, ruleEs]

/-- The world in which Right's loop runs: credit at b, the rules at r. -/
structure RW (W : World) (b r g s : Nat) : Prop where
  c : Blk W b 64 #[.int .i64 g, .int .i64 s]
  r : W.heap[r]? = some (.map ruleEs 3)
theorem RW.keeps {W W' : World} {b r g s : Nat} (h : RW W b r g s) (hk : Keeps [] W W') : RW W' b r g s :=
  ⟨h.c.keeps hk (by simp), (hk.block _ (Array.getElem?_eq_some_iff.1 h.r).1 (by simp)).trans h.r⟩

set_option maxRecDepth 100000 in
set_option maxHeartbeats 2000000 in
theorem cRight_any (g s : Nat) (hg : g ≤ 4000000000000) (B : Bool) (hB : okC g s = B) (w : World) :
    Calls Tryz.prog 84 #[.agg #[.int .i64 g, .int .i64 s]] w fun e w' => e = .returned (.bool B) ∧ Keeps [] w w' := by
  have HB := Lib.hid hB
  clear hB
  go_enter Tryz.func84, Tryz.ntmps84
  go_wp2_with (fail)
  refine (rules_any _).mono ?_
  rintro e W0 ⟨rfl, hW0⟩
  have hR0 : RW W0 w.heap.size (w.heap.size + 1) g s := hW0 ▸ ⟨(Blk.new w _ _).alloc _, by
    have := heap_alloc_new (w.alloc (.cells #[.int .i64 g, .int .i64 s] 64)) (.map ruleEs 3)
    rw [World.size_alloc] at this; exact this⟩
  have hK0 : Keeps [] w W0 := hW0 ▸ ((Keeps.refl [] w).alloc _).alloc _
  have hln := rule_len (w.heap.size + 1) W0 hR0.r
  have HR0 := Lib.hid hR0
  have HK0 := Lib.hid hK0
  clear hW0 hR0 hK0
  go_wp2_with (fail)
  go_loopw [8] (fun i wr => ∃ k : Nat, k ≤ 3 ∧ i = .int .i64 k ∧ RW wr w.heap.size (w.heap.size + 1) g s ∧ Keeps [] w wr ∧ Hid (1 ≤ k → s ≤ g) ∧ Hid (2 ≤ k → g ≤ 1000000000000) ∧ Hid (3 ≤ k → g - s ≤ 65536)) (fun i _ => 3 - (intOf i).toNat)
  case atStart => exact ⟨0, by omega, rfl, HR0.out, HK0.out, (fun h => absurd h (by omega) : 1 ≤ 0 → s ≤ g), (fun h => absurd h (by omega) : 2 ≤ 0 → g ≤ 1000000000000), (fun h => absurd h (by omega) : 3 ≤ 0 → g - s ≤ 65536)⟩
  case round =>
    obtain ⟨k, hk, rfl, hR, hK, h0, h1, h2⟩ := hrel
    obtain rfl | rfl | rfl | rfl : k = 0 ∨ k = 1 ∨ k = 2 ∨ k = 3 := by omega
    · have hl : (Instr.lookup 152 (.map (some (w.heap.size + 1))) (.int .i64 0) false).run Tryz.prog wr = .ok (.func (.func 104) #[] #[]) wr := rule_look 0 104 0 rfl (w.heap.size + 1) wr hR.r
      have hc := hR.c.cell 0
      have hd := hR.c.cell 1
      have HR := Lib.hid hR
      have HK := Lib.hid hK
      clear hR hK
      obtain ⟨b, hb⟩ : ∃ b, decide (s ≤ g) = b := ⟨_, rfl⟩
      have HC := Lib.hid hb
      clear hb
      go_wp2_with (fail)
      refine (isSpent_any g s b HC.out _).mono ?_
      rintro e w1 ⟨rfl, hk⟩
      have HK1 := Lib.hid (HK.out.trans hk)
      have HR1 := Lib.hid (HR.out.keeps hk)
      clear hk hl hc hd
      cases b with
      | true =>
        go_wp2
        go_roundw
        case rel => exact ⟨1, by omega, rfl, HR1.out, HK1.out, (fun _ => of_decide_eq_true HC.out : 1 ≤ 1 → s ≤ g), (fun h => absurd h (by omega) : 2 ≤ 1 → g ≤ 1000000000000), (fun h => absurd h (by omega) : 3 ≤ 1 → g - s ≤ 65536)⟩
        case measure => simp [intOf]
      | false =>
        go_wp2
        go_ret
        exact ⟨ret_bool (by rw [← HB.out]; have := of_decide_eq_false HC.out; unfold okC; simp; omega), HK1.out⟩
    · have hl : (Instr.lookup 152 (.map (some (w.heap.size + 1))) (.int .i64 1) false).run Tryz.prog wr = .ok (.func (.func 105) #[] #[]) wr := rule_look 1 105 1 rfl (w.heap.size + 1) wr hR.r
      have hc := hR.c.cell 0
      have hd := hR.c.cell 1
      have HR := Lib.hid hR
      have HK := Lib.hid hK
      clear hR hK
      obtain ⟨b, hb⟩ : ∃ b, decide (g ≤ 1000000000000) = b := ⟨_, rfl⟩
      have HC := Lib.hid hb
      clear hb
      go_wp2_with (fail)
      refine (isGranted_any g s b HC.out _).mono ?_
      rintro e w1 ⟨rfl, hk⟩
      have HK1 := Lib.hid (HK.out.trans hk)
      have HR1 := Lib.hid (HR.out.keeps hk)
      clear hk hl hc hd
      cases b with
      | true =>
        go_wp2
        go_roundw
        case rel => exact ⟨2, by omega, rfl, HR1.out, HK1.out, (fun _ => h0.out (by omega) : 1 ≤ 2 → s ≤ g), (fun _ => of_decide_eq_true HC.out : 2 ≤ 2 → g ≤ 1000000000000), (fun h => absurd h (by omega) : 3 ≤ 2 → g - s ≤ 65536)⟩
        case measure => simp [intOf]
      | false =>
        go_wp2
        go_ret
        exact ⟨ret_bool (by rw [← HB.out]; have := of_decide_eq_false HC.out; unfold okC; simp; omega), HK1.out⟩
    · have hl : (Instr.lookup 152 (.map (some (w.heap.size + 1))) (.int .i64 2) false).run Tryz.prog wr = .ok (.func (.func 106) #[] #[]) wr := rule_look 2 106 2 rfl (w.heap.size + 1) wr hR.r
      have hc := hR.c.cell 0
      have hd := hR.c.cell 1
      have HR := Lib.hid hR
      have HK := Lib.hid hK
      clear hR hK
      obtain ⟨b, hb⟩ : ∃ b, decide (g - s ≤ 65536) = b := ⟨_, rfl⟩
      have HC := Lib.hid hb
      clear hb
      go_wp2_with (fail)
      refine (isLeft_any g s (h0.out (by omega)) hg b HC.out _).mono ?_
      rintro e w1 ⟨rfl, hk⟩
      have HK1 := Lib.hid (HK.out.trans hk)
      have HR1 := Lib.hid (HR.out.keeps hk)
      clear hk hl hc hd
      cases b with
      | true =>
        go_wp2
        go_roundw
        case rel => exact ⟨3, by omega, rfl, HR1.out, HK1.out, (fun _ => h0.out (by omega) : 1 ≤ 3 → s ≤ g), (fun _ => h1.out (by omega) : 2 ≤ 3 → g ≤ 1000000000000), (fun _ => of_decide_eq_true HC.out : 3 ≤ 3 → g - s ≤ 65536)⟩
        case measure => simp [intOf]
      | false =>
        go_wp2
        go_ret
        exact ⟨ret_bool (by rw [← HB.out]; have := of_decide_eq_false HC.out; unfold okC; simp; omega), HK1.out⟩
    · have HK := Lib.hid hK
      clear hK hR
      go_wp2
      go_ret
      exact ⟨ret_bool (by rw [← HB.out]; unfold okC; simp [h0.out (by omega), h1.out (by omega), h2.out (by omega)]), HK.out⟩
end Go.Proofs.YtollcbacpoohlaaGreatDoor
