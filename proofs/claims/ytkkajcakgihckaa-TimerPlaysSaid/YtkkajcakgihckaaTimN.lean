/- A timer's entries sorted by the library's sort: entries' compare; what the sort leaves. -/
import Derived.Test.YtkkajcakgihckaaTimB
import Derived.Test.YtkkajcakgihckaaTimSrt
namespace Go.Proofs.Ytkkajcakgihckaa
open Go.RowKit Go.Shelf Go.Sort
attribute [local go_sem] Oper.semAt_some
attribute [local go_sem ↓] Go.wp_at_zero Go.wp_at_succ

/-- compare's answer. -/
def cmpK (x y : Ke) : Int := if x.ahead y then -1 else if y.ahead x then 1 else 0
theorem cmpK_lt (x y : Ke) : decide (cmpK x y < 0) = decide (x.ahead y) := by
  unfold cmpK
  by_cases h : x.ahead y
  · simp [h]
  · by_cases h2 : y.ahead x <;> simp [h, h2]
theorem swoK {α : Type} (g : α → Ke) : SWO (ltOf fun x y => cmpK (g x) (g y)) where
  irrefl x := by unfold ltOf; rw [cmpK_lt]; simp [Ke.ahead]
  trans x y z h1 h2 := by unfold ltOf at *; rw [cmpK_lt] at *; simp only [decide_eq_true_eq] at *; exact Ke.ahead_tr h1 h2
  ntrans x y z h1 h2 := by unfold ltOf at *; rw [cmpK_lt] at *; simp only [decide_eq_false_iff_not] at *; unfold Ke.ahead at *; omega

set_option maxRecDepth 100000 in
theorem compare_any (a b : Nat) (x y : Ke) (w : World) (h0 : w.cell? ⟨a, 0, none⟩ = some (.int .i64 x.key)) (h1 : w.cell? ⟨a, 1, none⟩ = some (.int .i64 x.at_)) (h2 : w.cell? ⟨b, 0, none⟩ = some (.int .i64 y.key)) (h3 : w.cell? ⟨b, 1, none⟩ = some (.int .i64 y.at_)) :
    Calls Try.prog 31 #[.pointer (some ⟨a, 0, none⟩), .pointer (some ⟨b, 0, none⟩)] w fun e w' => e = .returned (.int .i64 (cmpK x y)) ∧ ∃ q, w' = w.drewN q := by
  have HA := fun n => ahead_any a b x.key x.at_ y.key y.at_ (w.drewN n) h0 h1 h2 h3
  have HB := fun n => ahead_any b a y.key y.at_ x.key x.at_ (w.drewN n) h2 h3 h0 h1
  obtain ⟨r1, hr1⟩ : ∃ r, decide (x.at_ < y.at_ ∨ x.at_ = y.at_ ∧ x.key < y.key) = r := ⟨_, rfl⟩
  obtain ⟨r2, hr2⟩ : ∃ r, decide (y.at_ < x.at_ ∨ y.at_ = x.at_ ∧ y.key < x.key) = r := ⟨_, rfl⟩
  have hc : cmpK x y = if r1 then -1 else if r2 then 1 else 0 := by
    unfold cmpK Ke.ahead
    rw [← hr1, ← hr2]
    simp
  rw [hr1] at HA
  rw [hr2] at HB
  rw [hc]
  have hz := HA 0
  simp only [World.drewN_zero] at hz
  clear hr1 hr2 hc h0 h1 h2 h3
  cases r1 with
  | true =>
    go_enter Try.func31, Try.ntmps31
    go_wp2_with (go_at_call 40; refine hz.mono ?_; rintro e w1 ⟨rfl, n, rfl⟩)
    go_ret
    exact ⟨rfl, _, rfl⟩
  | false =>
    cases r2 with
    | true =>
      go_enter Try.func31, Try.ntmps31
      go_wp2_with (go_at_call 40; refine hz.mono ?_; rintro e w1 ⟨rfl, n, rfl⟩; clear hz)
      have hy := HB n
      go_wp2_with (go_at_call 40; refine hy.mono ?_; rintro e w1 ⟨rfl, m, rfl⟩)
      go_ret
      exact ⟨rfl, n + m, rfl⟩
    | false =>
      go_enter Try.func31, Try.ntmps31
      go_wp2_with (go_at_call 40; refine hz.mono ?_; rintro e w1 ⟨rfl, n, rfl⟩; clear hz)
      have hy := HB n
      go_wp2_with (go_at_call 40; refine hy.mono ?_; rintro e w1 ⟨rfl, m, rfl⟩)
      go_ret
      exact ⟨rfl, n + m, rfl⟩

theorem ins_nil (p : Option Addr) (c : Nat) (fv : Value) (w : World) : Calls Try.prog 51 #[.slice p 0 c, .int .i64 0, .int .i64 0, fv] w fun e w' => e = .returned (.tuple #[]) ∧ w' = w := by
  go_enter Try.func51, Try.ntmps51
  go_wp2
  refine wp_loop_rounds 1 ?_
  rw [rounds_succ]
  go_wp2
  go_end0
  exact ⟨rfl, rfl⟩
set_option maxHeartbeats 2000000 in
theorem pdq_nil (p : Option Addr) (c : Nat) (lim : Int) (fv : Value) (w : World) : Calls Try.prog 48 #[.slice p 0 c, .int .i64 0, .int .i64 0, .int .i64 lim, fv] w fun e w' => e = .returned (.tuple #[]) ∧ w' = w := by
  have hi := fun W => ins_nil p c fv W
  go_enter Try.func48, Try.ntmps48
  go_wp2
  refine wp_loop_rounds 1 ?_
  rw [rounds_succ]
  go_wp2_with (go_at_call 51; refine (hi _).mono ?_; rintro e w' ⟨rfl, rfl⟩)
  (try simp only [Exit.inBlock, Exit.then])
  refine bodyPost_ret (results_none rfl _ _ _) rfl ?_
  exact ⟨rfl, rfl⟩
set_option maxHeartbeats 2000000 in
theorem sort_nil (p : Option Addr) (c : Nat) (fv : Value) (w : World) : Calls Try.prog 38 #[.slice p 0 c, fv] w fun e w' => e = .returned (.tuple #[]) ∧ w' = w := by
  have hl : ∀ W, Calls Try.prog 49 #[.int .u64 0] W fun e w' => e = .returned (.int .i64 (Lib.bitLen 0 : Nat)) ∧ w' = W := fun W => by
    have h := Any.bits_Len (SlLaysF0.n15.bits (P := Try.prog) (ρ := sortE_ren) { sortE with }) 0 W (by omega) (by omega)
    exact h
  have hp := fun lim W => pdq_nil p c lim fv W
  go_enter Try.func38, Try.ntmps38
  go_wp2_with (first | (go_at_call 49; refine (hl _).mono ?_; rintro e w' ⟨rfl, rfl⟩) | (go_at_call 48; refine (hp _ _).mono ?_; rintro e w' ⟨rfl, rfl⟩))
  go_end0
  exact ⟨rfl, rfl⟩

theorem keeps_sortWorld {α : Type} [Inhabited α] (enc : α → Value) (w : World) (g m : Nat) (d : Array α) (os : Array Obj) : Keeps [g] w (sortWorld enc w g 0 m d os) := by
  refine ⟨rfl, rfl, rfl, by unfold sortWorld; simp [Sort.ahead], fun k hk hn => ?_⟩
  have h1 : k < (putRow enc (Sort.ahead w m) g 0 d).heap.size := by simpa [Sort.ahead] using hk
  unfold sortWorld
  rw [heap_grow_old _ os h1]
  unfold putRow mapBlock
  simp only [Array.getElem?_modify]
  rw [if_neg (fun e => hn (by simp [e]))]
  rfl

set_option maxHeartbeats 1000000 in
theorem sort_some (n g cap : Nat) (f : Nat → EnB) (w : World) (hg : g < w.heap.size) (hrow : ∀ k, k < n + 1 → w.cell? ⟨g, k, none⟩ = some (f k).ptr ∧ w.frozen? ⟨g, k, none⟩ = false) (hent : ∀ k, k < n + 1 → (f k).b ≠ g ∧ w.cell? ⟨(f k).b, 0, none⟩ = some (.int .i64 (f k).k.key) ∧ w.cell? ⟨(f k).b, 1, none⟩ = some (.int .i64 (f k).k.at_)) (hn : n + 1 ≤ 64) :
    Calls Try.prog 38 #[.slice (some ⟨g, 0, none⟩) (n + 1) cap, .func (.func 31) #[] #[]] w fun e w' => e = .returned (.tuple #[]) ∧ ∃ f' : Nat → EnB, (∀ k, k < n + 1 → w'.cell? ⟨g, k, none⟩ = some (f' k).ptr) ∧ (lst f' (n + 1)).Perm (lst f (n + 1)) ∧ (∀ i j, i < j → j < n + 1 → ¬ (f' j).k.ahead (f' i).k) ∧ Keeps [g] w w' := by
  have eg : ∀ args w, (callFunc 31 args).run Try.prog w = .ok (.enter 31 args) w := enters_of Try.func31 (by kernel_rfl) rfl
  let enc : Fin (n + 1) → Value := fun k => (f k.val).ptr
  let d : Array (Fin (n + 1)) := Array.ofFn id
  have hds : d.size = n + 1 := by simp [d]
  have hdg : ∀ k (hk : k < n + 1), d[k]! = ⟨k, hk⟩ := fun k hk => by
    rw [getElem!_pos d k (by omega)]
    simp [d]
  have hcell : ∀ (m : Nat) (dk : Array (Fin (n + 1))) (os : Array Obj) (b o : Nat) (v : Value), b ≠ g → w.cell? ⟨b, o, none⟩ = some v → (sortWorld enc w g 0 m dk os).cell? ⟨b, o, none⟩ = some v := fun m dk os b o v hb hv =>
    ((keeps_sortWorld enc w g m dk os).cell (p := ⟨b, o, none⟩) (World.block_lt_of_cell? w _ hv) (by simpa using hb)).trans hv
  have hcmp : CmpReads Try.prog 31 #[] enc (fun x y => cmpK (f x.val).k (f y.val).k) g 0 d.size w := fun m os dk _ x y => by
    obtain ⟨x1, x2, x3⟩ := hent x.val x.isLt
    obtain ⟨y1, y2, y3⟩ := hent y.val y.isLt
    exact compare_any _ _ (f x.val).k (f y.val).k _ (hcell _ _ _ _ _ _ x1 x2) (hcell _ _ _ _ _ _ x1 x3) (hcell _ _ _ _ _ _ y1 y2) (hcell _ _ _ _ _ _ y1 y3)
  have hH : Holds enc w g 0 d := fun j hj => by
    rw [hds] at hj
    rw [hdg j hj, Nat.zero_add]
    exact hrow j hj
  have hcon := Any.slices_SortFunc sortE enc (fun _ => rfl) (fun x y => cmpK (f x.val).k (f y.val).k) (swoK fun k : Fin (n + 1) => (f k.val).k) 31 #[] g 0 cap d w eg hcmp.lays hH hg (by omega)
  rw [hds] at hcon
  have hcon2 : Calls Try.prog 38 #[.slice (some ⟨g, 0, none⟩) (n + 1) cap, .func (.func 31) #[] #[]] w _ := hcon
  refine hcon2.mono ?_
  rintro e w' ⟨he, d', m, os, hp, hs, rfl⟩
  obtain ⟨hp1, _, hp3⟩ := hp
  rw [hds] at hp1
  refine ⟨he, fun k => f (d'[k]!).val, fun k hk => ?_, ?_, fun i j hij hj => ?_, keeps_sortWorld _ _ _ _ _ _⟩
  · have h1 := cell?_putRow enc (Sort.ahead w m) g 0 d d' hH (by omega) k (by omega)
    rw [Nat.zero_add] at h1
    unfold sortWorld
    rw [cell?_grow _ os _ (by simpa [Sort.ahead] using hg)]
    exact h1
  · have e1 : d'.extract 0 (n + 1) = d' := Array.extract_eq_self_of_le (by omega)
    have e2 : d.extract 0 (n + 1) = d := Array.extract_eq_self_of_le (by omega)
    rw [e1, e2] at hp3
    have h1 : lst (fun k => f (d'[k]!).val) (n + 1) = d'.toList.map fun k => f k.val := by
      apply List.ext_getElem
      · simp [lst_length, hp1]
      · intro k h1 h2
        simp only [lst_length] at h1
        simp only [lst, List.getElem_map, List.getElem_range, Array.getElem_toList]
        rw [getElem!_pos d' k (by omega)]
    have h2 : lst f (n + 1) = d.toList.map fun k => f k.val := by
      apply List.ext_getElem
      · simp [lst_length, hds]
      · intro k h1 h2
        simp only [lst_length] at h1
        simp only [lst, List.getElem_map, List.getElem_range, Array.getElem_toList]
        have h3 := hdg k h1
        rw [getElem!_pos d k (by omega)] at h3
        rw [h3]
    rw [h1, h2]
    exact hp3.map _
  · have h1 := hs i j (Nat.zero_le _) hij hj
    unfold ltOf at h1
    rw [cmpK_lt] at h1
    exact of_decide_eq_false h1
end Go.Proofs.Ytkkajcakgihckaa
