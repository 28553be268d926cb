/- The walks of slices.Clone at texts, and of own. -/
import Derived.Test.YtbcppmcjbcnlbaaDoorSnapE
import Derived.Laws.OwnMore
import Derived.Laws.AppendOwn
import Derived.Deep.RegionHeld3
import Derived.Lib.SliceRun
namespace Go.Proofs.YtbcppmcjbcnlbaaDoor
open Go.RowKit Go.Shelf
attribute [local go_sem ↓] Go.wp_at_zero Go.wp_at_succ

theorem str_info : (Tryd.prog.info? 9).map (fun i => (i.zero, i.size, i.bytes)) = some (some (.string ⟨#[]⟩), 1, 16) := by kernel_rfl
theorem snap_info : (Tryd.prog.info? 39).map (fun i => (i.zero, i.size, i.bytes)) = some (some (.agg #[.int .i64 0, .slice none 0 0, .int .i64 0]), 3, 40) := by kernel_rfl

/-- An append whose run is known. -/
theorem wpList_append_run {P : Program} (w : World) {ops : Array Oper} {rest : List Oper} {o : Oper} {a : Act} {Q : Exit → Act → World → Prop} (hgd : o.guard = none) (s x : Operand) (t : TypeId)
    (ho : o.op = .call { callee := .builtin .append, args := #[s, x], argTypes := #[t, t] }) {v u v' : Value} {w' : World} (hs : a.eval s = v) (hx : a.eval x = u)
    (hr : (Builtin.append_ #[t, t] o.type #[v, u]).run P w = .ok v' w') (h : wpList P ops Q rest (a.put o.dst v') w') : wpList P ops Q (o :: rest) a w := by
  refine wpList_plain hgd fun K hK => ?_
  unfold Oper.wp execOp
  simp only [ho, resolve, invoke, builtin, Sem.run_bind, Sem.run_pure, Result.andThen_ok, List.map_toArray, List.map_cons, List.map_nil, hs, hx, hr]
  exact hK _ _ h

theorem strs_of_row {w : World} {B : Nat} {v : Value} {xs : List ByteArray} (h : w.ownsRow B 9 1 v xs.length (xs.map Value.string)) (hsm : xs.length ≤ 1000000) (hsz : ∀ x ∈ xs, x.size ≤ maxLen) :
    ∃ a c, v = .slice a xs.length c ∧ StrsV w a c xs := by
  rcases h.2 with ⟨rfl, h0⟩ | ⟨g, c, cur, rfl, hb, hg, hn, hc, hs, ht⟩
  · obtain rfl := List.eq_nil_of_length_eq_zero h0
    exact ⟨none, 0, rfl, Nat.le_refl _, fun hn => absurd rfl hn, by simp, by simp, fun _ => rfl⟩
  · refine ⟨_, c, rfl, hn, fun _ => ⟨g, 0, cur, (0, 0), rfl, hg, fun i hi => ?_⟩, hsm, hsz, fun e => by cases e⟩
    have hblk : Blk w g 9 cur := hg
    rw [hblk.cell, Nat.zero_add]
    have h1 : (xs.map Value.string)[i]? = some (.string xs[i]) := by rw [List.getElem?_map, List.getElem?_eq_getElem hi]; rfl
    rw [← ht, List.getElem?_take, if_pos (by omega)] at h1
    simpa using h1
/-- A row of n cells that lies in block B or behind it. -/
def Fr (B : Nat) (a : Option Addr) (n : Nat) : Prop := ∀ g off, a = some ⟨g, off, none⟩ → 0 < n → B ≤ g
theorem Fr.none (B n : Nat) : Fr B none n := fun _ _ h => by cases h
theorem Fr.down {B B' : Nat} {a : Option Addr} {n : Nat} (h : Fr B a n) (hb : B' ≤ B) : Fr B' a n := fun g off e h0 => Nat.le_trans hb (h g off e h0)
theorem fr_of_row {w : World} {B : Nat} {a : Option Addr} {n c : Nat} {xs : List Value} (h : w.ownsRow B 9 1 (.slice a n c) n xs) : Fr B a n := fun g off e h0 => by
  rcases h.2 with ⟨h1, rfl⟩ | ⟨g', c', cur, h1, hb, _⟩
  · omega
  · injection h1 with h1 _ _
    rw [e] at h1
    injection h1 with h1
    injection h1 with h1 _ _
    rw [h1]; exact hb
theorem addr_add (g off j : Nat) : (⟨g, off, none⟩ : Addr).add j = ⟨g, off + j, none⟩ := by
  unfold Addr.add
  split <;> simp_all

set_option maxRecDepth 100000 in
/-- A copy of texts by append. -/
theorem app_strs {W : World} {B : Nat} {v : Value} {ys : List ByteArray} (hv : W.ownsRow B 9 1 v ys.length (ys.map Value.string)) (hB : B ≤ W.heap.size) {a : Option Addr} {c : Nat} {xs : List ByteArray} (h : StrsV W a c xs) (hy : ys.length ≤ 1000000) (ty : TypeId) :
    ∃ v' W', (Builtin.append_ #[25, 25] ty #[v, .slice a xs.length c]).run Tryd.prog W = .ok v' W' ∧ W'.ownsRow B 9 1 v' (ys ++ xs).length ((ys ++ xs).map Value.string) ∧ W.grownBy W' v.ownBlock := by
  obtain ⟨i0, hi, hz0, hz1, hz2⟩ := info_parts str_info
  have hsm := h.small
  rw [List.length_append, List.map_append]
  cases a with
  | none =>
    have hn : xs = [] := by
      apply Classical.byContradiction
      intro hn
      obtain ⟨g, off, cs, fz, e, _⟩ := h.at_ hn
      cases e
    subst hn
    rw [h.nil rfl]
    have := run_append_owned_none (P := Tryd.prog) (w := W) B 25 ty 9 i0 1 Tryd.underlying25 hi v ys.length _ hv
    exact ⟨v, W, this, by simpa using hv, ⟨rfl, rfl, rfl, Nat.le_refl _, fun _ _ _ => rfl⟩⟩
  | some p =>
    have hc : ∀ j u, (xs.map Value.string)[j]? = some u → W.cell? (p.add j) = some u := fun j u hj => by
      have hjl : j < xs.length := by have := (List.getElem?_eq_some_iff.1 hj).1; simpa using this
      obtain ⟨g, off, cs, fz, e, _, hat⟩ := h.at_ (by rintro rfl; simp at hjl)
      injection e with e
      subst e
      rw [addr_add, hat j hjl]
      rw [List.getElem?_map, List.getElem?_eq_getElem hjl] at hj
      exact hj
    obtain ⟨v', W', h1, h2, h3, _⟩ := run_append_own (P := Tryd.prog) W B 25 ty 9 i0 _ 1 16 Tryd.underlying25 hi hz0 hz1 hz2 rfl (by decide) v ys.length _ hv p xs.length c (xs.map Value.string) (by simp) hc (by intro u hu; obtain ⟨_, _, rfl⟩ := List.mem_map.1 hu; rfl) (by unfold maxLen; omega) (by omega) hB
    exact ⟨v', W', h1, h2, h3⟩

set_option maxRecDepth 100000 in
set_option maxHeartbeats 1000000 in
theorem clone_fr (a : Option Addr) (c : Nat) (xs : List ByteArray) (n : Nat) (hn : xs.length = n) (w : World) (h : StrsV w a c xs) :
    Calls Tryd.prog 29 #[.slice a n c] w fun r w' => ∃ a' c', r = .returned (.slice a' n c') ∧ StrsV w' a' c' xs ∧ Keeps [] w w' ∧ Fr w.heap.size a' n := by
  cases a with
  | none =>
    have hx : xs = [] := by
      apply Classical.byContradiction
      intro hn
      obtain ⟨g, off, cs, fz, e, _⟩ := h.at_ hn
      cases e
    subst hx
    subst hn
    obtain rfl := h.nil rfl
    have H := Lib.hid h
    clear h
    have h0 : Calls Tryd.prog 29 #[.slice none 0 0] w fun r w' => r = .returned (.slice none 0 0) ∧ w = w' := by
      clear H
      have hq := fun W => Lib.run_eql_slice_nil (P := Tryd.prog) W _ _ none 0 0 0 0 Tryd.underlying25
      go_enter Tryd.func29, Tryd.ntmps29
      go_wp2
      go_ret
      exact ⟨rfl, rfl⟩
    refine h0.mono ?_
    rintro r w' ⟨rfl, rfl⟩
    exact ⟨none, 0, rfl, H.out, Keeps.refl [] w, Fr.none _ _⟩
  | some p =>
    have hrow : (w.alloc (.cells #[] 9)).ownsRow w.heap.size 9 1 (.slice (some ⟨w.heap.size, 0, none⟩) 0 0) 0 [] := by
      have := World.ownsRow_lit (base := w.heap.size) (e := 9) (size := 1) w #[] 0 (Nat.le_refl _) (by unfold maxLen; omega) rfl
      simpa using this
    have hk0 := (Keeps.refl [] w).alloc (.cells #[] 9)
    obtain ⟨v', W', hr, hown, hg⟩ := app_strs (ys := []) hrow (by simp) (h.keeps hk0) (by simp) 25
    rw [List.nil_append] at hown
    obtain ⟨a', c', rfl, hs⟩ := strs_of_row hown h.small h.size
    have hk : Keeps [] w W' := hk0.grown hg (fun k hk => by
      simp [Value.ownBlock] at hk
      exact .inr (by omega))
    have hfr := fr_of_row hown
    rw [hn] at hr hfr
    have HFR := Lib.hid hfr
    have HS := Lib.hid hs
    have HK := Lib.hid hk
    clear hs hk hown hg hrow hk0 h hfr
    have h0 : Calls Tryd.prog 29 #[.slice (some p) n c] w fun r w' => r = .returned (.slice a' n c') ∧ W' = w' := by
      clear HS HK HFR
      have hq := fun W => Lib.run_eql_slice_nil (P := Tryd.prog) W _ _ (some p) n c 0 0 Tryd.underlying25
      go_enter Tryd.func29, Tryd.ntmps29
      go_wp2_with (at_builtin; refine wpList_append_run _ rfl _ _ 25 rfl rfl rfl hr ?_)
      go_ret
      exact ⟨rfl, rfl⟩
    refine h0.mono ?_
    rintro r w' ⟨rfl, rfl⟩
    exact ⟨a', c', rfl, HS.out, HK.out, HFR.out⟩
theorem clone_any (a : Option Addr) (c : Nat) (xs : List ByteArray) (n : Nat) (hn : xs.length = n) (w : World) (h : StrsV w a c xs) :
    Calls Tryd.prog 29 #[.slice a n c] w fun r w' => ∃ a' c', r = .returned (.slice a' n c') ∧ StrsV w' a' c' xs ∧ Keeps [] w w' :=
  (clone_fr a c xs n hn w h).mono fun _ _ ⟨a', c', h1, h2, h3, _⟩ => ⟨a', c', h1, h2, h3⟩
end Go.Proofs.YtbcppmcjbcnlbaaDoor
