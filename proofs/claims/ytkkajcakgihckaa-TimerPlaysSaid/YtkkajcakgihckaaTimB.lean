/- A timer's heap in memory: what a swap turns; the walks of heap's up and down. -/
import Derived.Test.YtkkajcakgihckaaTimA
namespace Go.Proofs.Ytkkajcakgihckaa
open Go.RowKit
attribute [local go_sem] Oper.semAt_some
attribute [local go_sem ↓] Go.wp_at_zero Go.wp_at_succ

/-- An entry: its block, what it says. -/
structure EnB where
  b : Nat
  k : Ke
def EnB.ptr (x : EnB) : Value := .pointer (some ⟨x.b, 0, none⟩)
def EnB.le (x y : EnB) : Prop := Ke.le x.k y.k
theorem EnB.le_tot (a b : EnB) : a.le b ∨ b.le a := Ke.le_tot _ _
theorem EnB.le_tr (a b c : EnB) (h1 : a.le b) (h2 : b.le c) : a.le c := Ke.le_tr _ _ _ h1 h2

/-- The heap's row in memory: f k stands at k; S holds all its blocks. -/
structure HR (w : World) (S : List Nat) (t m g cap N : Nat) (f : Nat → EnB) : Prop where
  head : Blk w t 55 #[.slice (some ⟨g, 0, none⟩) N cap, .map (some m)]
  row : ∃ cur, Blk w g 60 cur ∧ cur.size = cap ∧ ∀ k, k < N → cur[k]? = some (f k).ptr
  ent : ∀ k, k < N → Blk w (f k).b 62 #[.int .i64 (f k).k.key, .int .i64 (f k).k.at_, .int .i64 k]
  le : N ≤ cap
  cM : cap ≤ maxLen
  max : N ≤ 64
  tS : t ∈ S
  gS : g ∈ S
  eS : ∀ k, k < N → (f k).b ∈ S

section
variable {w w' : World} {S S' : List Nat} {t m g cap N i j : Nat} {f : Nat → EnB}
theorem HR.keeps (h : HR w S t m g cap N f) (hk : Keeps S' w w') (hn : ∀ k ∈ S, k ∉ S') : HR w' S t m g cap N f := by
  obtain ⟨cur, h1, h2, h3⟩ := h.row
  exact ⟨h.head.keeps hk (hn _ h.tS), ⟨cur, h1.keeps hk (hn _ h.gS), h2, h3⟩, fun k hk' => (h.ent k hk').keeps hk (hn _ (h.eS k hk')), h.le, h.cM, h.max, h.tS, h.gS, h.eS⟩
theorem HR.drewN (h : HR w S t m g cap N f) (n : Nat) : HR (w.drewN n) S t m g cap N f := h.keeps ((Keeps.refl [] w).drewN n) (by simp)
theorem HR.tg (h : HR w S t m g cap N f) : t ≠ g := by
  obtain ⟨cur, h1, _⟩ := h.row
  exact h.head.ne_ h1 (by decide)
theorem HR.te (h : HR w S t m g cap N f) (hi : i < N) : t ≠ (f i).b := h.head.ne_ (h.ent i hi) (by decide)
theorem HR.ge (h : HR w S t m g cap N f) (hi : i < N) : g ≠ (f i).b := by
  obtain ⟨cur, h1, _⟩ := h.row
  exact h1.ne_ (h.ent i hi) (by decide)
theorem HR.ee (h : HR w S t m g cap N f) (hi : i < N) (hj : j < N) (hij : i ≠ j) : (f i).b ≠ (f j).b := fun e => by
  have h1 := h.ent i hi
  have h2 := h.ent j hj
  rw [e] at h1
  have h3 := (h1.cell 2).symm.trans (h2.cell 2)
  simp at h3
  omega
theorem HR.c0 (h : HR w S t m g cap N f) : w.cell? ⟨t, 0, none⟩ = some (.slice (some ⟨g, 0, none⟩) N cap) := h.head.cell 0
theorem HR.cr (h : HR w S t m g cap N f) (hi : i < N) : w.cell? ⟨g, i, none⟩ = some (.pointer (some ⟨(f i).b, 0, none⟩)) := by
  obtain ⟨cur, h1, _, h3⟩ := h.row
  rw [h1.cell]; exact h3 i hi
theorem HR.fr (h : HR w S t m g cap N f) : w.frozen? ⟨g, i, none⟩ = false := by
  obtain ⟨cur, h1, _⟩ := h.row
  exact h1.frozen i
/-- The world behind a swap. -/
def swW (w : World) (g i j bi bj : Nat) : World := (((w.setCell ⟨g, i, none⟩ (.pointer (some ⟨bj, 0, none⟩))).setCell ⟨g, j, none⟩ (.pointer (some ⟨bi, 0, none⟩))).setCell ⟨bj, 2, none⟩ (.int .i64 i)).setCell ⟨bi, 2, none⟩ (.int .i64 j)
theorem HR.swap_w (h : HR w S t m g cap N f) (hi : i < N) (hj : j < N) (hij : i ≠ j) : HR (swW w g i j (f i).b (f j).b) S t m g cap N (swp f i j) ∧ Keeps S w (swW w g i j (f i).b (f j).b) := by
  obtain ⟨cur, h1, h2, h3⟩ := h.row
  have n1 := h.ge hi
  have n2 := h.ge hj
  have n3 := h.ee hi hj hij
  have hle := h.le
  refine ⟨⟨(((h.head.far (p := ⟨g, i, none⟩) h.tg _).far (p := ⟨g, j, none⟩) h.tg _).far (p := ⟨(f j).b, 2, none⟩) (h.te hj) _).far (p := ⟨(f i).b, 2, none⟩) (h.te hi) _,
    ⟨_, (((h1.set_ i _).set_ j _).far (p := ⟨(f j).b, 2, none⟩) n2 _).far (p := ⟨(f i).b, 2, none⟩) n1 _, by simp [h2], fun k hk => ?_⟩, fun k hk => ?_, h.le, h.cM, h.max, h.tS, h.gS, fun k hk => ?_⟩,
    ((((Keeps.refl S w).setCell (p := ⟨g, i, none⟩) (.inl h.gS) _).setCell (p := ⟨g, j, none⟩) (.inl h.gS) _).setCell (p := ⟨(f j).b, 2, none⟩) (.inl (h.eS j hj)) _).setCell (p := ⟨(f i).b, 2, none⟩) (.inl (h.eS i hi)) _⟩
  · by_cases e1 : k = i
    · subst e1
      rw [swp_i, Array.getElem?_setIfInBounds_ne (by omega), Array.getElem?_setIfInBounds_self_of_lt (by omega)]; rfl
    · by_cases e2 : k = j
      · subst e2
        rw [swp_j, Array.getElem?_setIfInBounds_self_of_lt (by simp; omega)]; rfl
      · rw [swp_o f e1 e2, Array.getElem?_setIfInBounds_ne (by omega), Array.getElem?_setIfInBounds_ne (by omega)]; exact h3 k hk
  · by_cases e1 : k = i
    · subst e1
      rw [swp_i]
      exact ((((h.ent j hj).far (p := ⟨g, k, none⟩) n2.symm _).far (p := ⟨g, j, none⟩) n2.symm _).set_ 2 (.int .i64 k)).far (p := ⟨(f k).b, 2, none⟩) n3.symm _
    · by_cases e2 : k = j
      · subst e2
        rw [swp_j]
        exact ((((h.ent i hi).far (p := ⟨g, i, none⟩) n1.symm _).far (p := ⟨g, k, none⟩) n1.symm _).far (p := ⟨(f k).b, 2, none⟩) n3 _).set_ 2 (.int .i64 k)
      · rw [swp_o f e1 e2]
        exact ((((h.ent k hk).far (p := ⟨g, i, none⟩) (h.ge hk).symm _).far (p := ⟨g, j, none⟩) (h.ge hk).symm _).far (p := ⟨(f j).b, 2, none⟩) (h.ee hk hj e2) _).far (p := ⟨(f i).b, 2, none⟩) (h.ee hk hi e1) _
  · by_cases e1 : k = i
    · subst e1; rw [swp_i]; exact h.eS j hj
    · by_cases e2 : k = j
      · subst e2; rw [swp_j]; exact h.eS i hi
      · rw [swp_o f e1 e2]; exact h.eS k hk

theorem HR.swap (h : HR w S t m g cap N f) (hi : i < N) (hj : j < N) (hij : i ≠ j) :
    Calls Try.prog 86 #[.slice (some ⟨g, 0, none⟩) N cap, .int .i64 i, .int .i64 j] w fun e w' => e = .returned (.tuple #[]) ∧ HR w' S t m g cap N (swp f i j) ∧ Keeps S w w' := by
  refine (swap_ne g N cap i j (f i).b (f j).b w hij hi hj (h.cr hi) (h.cr hj) _ _ ((h.ent i hi).cell 2) ((h.ent j hj).cell 2) h.fr h.fr ((h.ent i hi).frozen 2) ((h.ent j hj).frozen 2) (h.ge hi) (h.ge hj) (h.ee hi hj hij)).mono ?_
  rintro e w' ⟨he, q, rfl⟩
  have := h.swap_w hi hj hij
  exact ⟨he, this.1.drewN q, this.2.drewN q⟩
theorem swp_id (f : Nat → EnB) (i : Nat) : swp f i i = f := by
  funext k
  by_cases e : k = i
  · subst e; rw [swp_i]
  · rw [swp_o f e e]
theorem HR.swap0 (h : HR w S t m g cap N f) (hi : 0 < N) :
    Calls Try.prog 86 #[.slice (some ⟨g, 0, none⟩) N cap, .int .i64 0, .int .i64 0] w fun e w' => e = .returned (.tuple #[]) ∧ HR w' S t m g cap N (swp f 0 0) ∧ Keeps S w w' := by
  refine (swap_one g N cap (f 0).b w hi (h.cr hi) _ ((h.ent 0 hi).cell 2) h.fr ((h.ent 0 hi).frozen 2) (h.ge hi)).mono ?_
  rintro e w' ⟨he, q, rfl⟩
  rw [swp_id]
  have n1 := h.ge hi
  have hle := h.le
  obtain ⟨cur, h1, h2, h3⟩ := h.row
  refine ⟨he, HR.drewN ⟨(((h.head.far (p := ⟨g, 0, none⟩) h.tg _).far (p := ⟨g, 0, none⟩) h.tg _).far (p := ⟨(f 0).b, 2, none⟩) (h.te hi) _).far (p := ⟨(f 0).b, 2, none⟩) (h.te hi) _,
    ⟨_, (((h1.set_ 0 _).set_ 0 _).far (p := ⟨(f 0).b, 2, none⟩) n1 _).far (p := ⟨(f 0).b, 2, none⟩) n1 _, by simp [h2], fun k hk => ?_⟩, fun k hk => ?_, h.le, h.cM, h.max, h.tS, h.gS, h.eS⟩ q,
    (((((Keeps.refl S w).setCell (p := ⟨g, 0, none⟩) (.inl h.gS) _).setCell (p := ⟨g, 0, none⟩) (.inl h.gS) _).setCell (p := ⟨(f 0).b, 2, none⟩) (.inl (h.eS 0 hi)) _).setCell (p := ⟨(f 0).b, 2, none⟩) (.inl (h.eS 0 hi)) _).drewN q⟩
  · by_cases e1 : k = 0
    · subst e1
      rw [Array.getElem?_setIfInBounds_self_of_lt (by simp; omega)]; rfl
    · rw [Array.getElem?_setIfInBounds_ne (by omega), Array.getElem?_setIfInBounds_ne (by omega)]; exact h3 k hk
  · by_cases e1 : k = 0
    · subst e1
      exact ((((h.ent 0 hi).far (p := ⟨g, 0, none⟩) n1.symm _).far (p := ⟨g, 0, none⟩) n1.symm _).set_ 2 (.int .i64 0)).set_ 2 (.int .i64 0)
    · exact ((((h.ent k hk).far (p := ⟨g, 0, none⟩) (h.ge hk).symm _).far (p := ⟨g, 0, none⟩) (h.ge hk).symm _).far (p := ⟨(f 0).b, 2, none⟩) (h.ee hk hi e1) _).far (p := ⟨(f 0).b, 2, none⟩) (h.ee hk hi e1) _
theorem HR.less (h : HR w S t m g cap N f) (hi : i < N) (hj : j < N) {r : Bool} (hr : r = true ↔ ¬ EnB.le (f j) (f i)) :
    Calls Try.prog 83 #[.slice (some ⟨g, 0, none⟩) N cap, .int .i64 i, .int .i64 j] w fun e w' => e = .returned (.bool r) ∧ HR w' S t m g cap N f ∧ Keeps S w w' := by
  refine (less_any g N cap i j (f i).b (f j).b _ _ _ _ w hi hj (h.cr hi) (h.cr hj) ((h.ent i hi).cell 0) ((h.ent i hi).cell 1) ((h.ent j hj).cell 0) ((h.ent j hj).cell 1)).mono ?_
  rintro e w' ⟨he, q, rfl⟩
  refine ⟨he.trans (ret_bool ?_), h.drewN q, (Keeps.refl S w).drewN q⟩
  rw [Bool.eq_iff_iff, hr, decide_eq_true_eq]
  unfold EnB.le Ke.le Ke.ahead
  omega
end
end Go.Proofs.Ytkkajcakgihckaa
