/- What a row's listed sentinels give a walk. No program in sight. -/
import Derived.Test.YtbcppmcjbcnlbaaDoorBase
import Derived.LaidLaws
import Derived.Stop.LaidErr
namespace Go.Proofs.YtbcppmcjbcnlbaaDoor
open Go.RowKit Go.ChangeShapes

/-- A sentinel's datum. -/
def sentD (nm : String) (x : String × Nat × List UInt8) : String × DataW Unit := (x.1, .iface nm (.ptr (.agg [.lit (.string x.2.2)])))

/-- The variables of gs hold pointers to the sentinels at e, all apart, none frozen. -/
structure Sents (w : World) (tp : TypeId) (gs : List Nat) (e : Nat → Addr) : Prop where
  cell : ∀ g ∈ gs, w.cell? ⟨g, 0, none⟩ = some (.iface tp (.pointer (some (e g))))
  row : ∀ g ∈ gs, ∃ c t, w.heap[(e g).block]? = some (.cells c t (0, 0))
  ne : ∀ g ∈ gs, ∀ g' ∈ gs, g ≠ g' → e g ≠ e g'

theorem Sents.keeps {w w' : World} {tp : TypeId} {gs : List Nat} {e : Nat → Addr} {S : List Nat} (h : Sents w tp gs e) (hk : Keeps S w w') (hS : ∀ g ∈ gs, g ∉ S ∧ (e g).block ∉ S) : Sents w' tp gs e :=
  ⟨fun g hg => (hk.cell (p := ⟨g, 0, none⟩) (World.block_lt_of_cell? w _ (h.cell g hg)) (hS g hg).1).trans (h.cell g hg), fun g hg => by
    obtain ⟨c, t, hb⟩ := h.row g hg
    exact ⟨c, t, (hk.block _ ((Array.getElem?_eq_some_iff.1 hb).1) (hS g hg).2).trans hb⟩, h.ne⟩
theorem Sents.keep {w w' : World} {tp : TypeId} {gs : List Nat} {e : Nat → Addr} (h : Sents w tp gs e) (hk : Keeps [] w w') : Sents w' tp gs e := h.keeps hk (fun _ _ => ⟨by simp, by simp⟩)

theorem laid_sents_aux {P : Program} {nm : String} {W : World} {ti tp te ts : TypeId} {ms : Array (String × TypeId)} {f : Field}
    (hi : P.underlying ti = some (.interface ms)) (hrow : ∀ u, P.typeName? 3 u = some nm → u = tp)
    (hp : P.underlying tp = some (.pointer te)) (he : P.underlying te = some (.struct #[f])) (hft : f.type = ts) (hfo : f.offset = 0) (hs : P.underlying ts = some .string) (hc : P.cellsOf te = 1) (hcs : P.cellsOf ts = 1) :
    ∀ (l : List (String × Nat × List UInt8)) (ps : List MemPlace), DataW.LaidVars P W (l.map (sentD nm)) ps → ps.Nodup →
      (∀ b off, MemPlace.cell b off ∈ ps → (∃ c t, W.heap[b]? = some (.cells c t (0, 0))) ∧ ∀ u v, W.cell? ⟨b, off, none⟩ = some (.iface u v) → Value.okWide P W .any 0 u v) →
      (∀ x ∈ l, P.globalNamed x.1 = some x.2.1 ∧ (P.globals[x.2.1]?).map (·.type) = some ti) → (l.map (·.2.1)).Nodup →
      ∃ e : Nat → Addr, Sents W tp (l.map (·.2.1)) e ∧ ∀ g ∈ l.map (·.2.1), MemPlace.cell (e g).block (e g).off ∈ ps
  | [], ps, _, _, _, _, _ => ⟨fun _ => ⟨0, 0, none⟩, ⟨by simp, by simp, by simp⟩, by simp⟩
  | x :: l, ps, h, hnd, hrows, hg, hgn => by
    obtain ⟨g0, t0, cs0, f0, p0, q0, hg0, ht0, hv0, hd0, hq, e0⟩ := h
    obtain ⟨hgx, htx⟩ := hg x (by simp)
    obtain rfl := Option.some.inj (hgx.symm.trans hg0)
    obtain rfl := Option.some.inj (htx.symm.trans ht0)
    subst e0
    obtain ⟨l0⟩ := cs0
    have ok0 : ∀ u v, l0 = [.iface u v] → Value.okWide P W .any 0 u v := fun u v e => by
      subst e
      exact (hrows x.2.1 0 (by simp [MemPlace.row])).2 u v (by simpa using World.var?_cell hg0 hv0 0)
    obtain ⟨a0, s0, rfl, hc0, hs0, hz0, rfl⟩ := errorString_of_trod hi hrow hp he hft hfo hs hc hcs hd0 ok0
    have hnd2 : q0.Nodup := List.Nodup.sublist (List.sublist_append_right _ _) hnd
    obtain ⟨e, hS, hin⟩ := laid_sents_aux hi hrow hp he hft hfo hs hc hcs l q0 hq hnd2 (fun b off hm => hrows b off (List.mem_append_right _ hm)) (fun y hy => hg y (by simp [hy])) (List.nodup_cons.1 hgn).2
    have hx : x.2.1 ∉ l.map (·.2.1) := (List.nodup_cons.1 hgn).1
    refine ⟨fun g => if g = x.2.1 then a0 else e g, ⟨fun g hg => ?_, fun g hg => ?_, fun g hg g' hg' hne => ?_⟩, fun g hg => ?_⟩
    · by_cases hgx : g = x.2.1
      · subst hgx; rw [if_pos rfl]; simpa using World.var?_cell hg0 hv0 0
      · rw [if_neg hgx]; exact hS.cell g (by simpa [hgx] using hg)
    · by_cases hgx : g = x.2.1
      · subst hgx; rw [if_pos rfl]; exact (hrows a0.block a0.off (by simp [MemPlace.row])).1
      · rw [if_neg hgx]; exact hS.row g (by simpa [hgx] using hg)
    · have hout : ∀ g ∈ l.map (·.2.1), a0 ≠ e g := fun g hg => by
        rintro rfl
        have h1 := hin g hg
        rw [List.append_assoc] at hnd
        have h2 := List.Nodup.sublist (List.sublist_append_right _ _) hnd
        rw [List.nodup_append] at h2
        exact h2.2.2 _ (by simp [MemPlace.row]) _ h1 rfl
      by_cases hgx : g = x.2.1
      · subst hgx
        rw [if_pos rfl, if_neg (fun h => hne h.symm)]
        exact hout g' (by
          rcases List.mem_cons.1 hg' with h | h
          · exact absurd h.symm hne
          · exact h)
      · rw [if_neg hgx]
        have hgl : g ∈ l.map (·.2.1) := by simpa [hgx] using hg
        by_cases hgx' : g' = x.2.1
        · subst hgx'
          rw [if_pos rfl]
          exact (hout g hgl).symm
        · rw [if_neg hgx']
          exact hS.ne g hgl g' (by simpa [hgx'] using hg') hne
    · by_cases hgx : g = x.2.1
      · subst hgx; simp [MemPlace.row]
      · simp only [if_neg hgx]; exact List.mem_append_right _ (hin g (by simpa [hgx] using hg))

theorem laid_sents {P : Program} {nm : String} {W : World} {ti tp te ts : TypeId} {ms : Array (String × TypeId)} {f : Field} {l : List (String × Nat × List UInt8)} (h : laidMet P (l.map (sentD nm)) W)
    (hi : P.underlying ti = some (.interface ms)) (hrow : ∀ u, P.typeName? 3 u = some nm → u = tp)
    (hp : P.underlying tp = some (.pointer te)) (he : P.underlying te = some (.struct #[f])) (hft : f.type = ts) (hfo : f.offset = 0) (hs : P.underlying ts = some .string) (hc : P.cellsOf te = 1) (hcs : P.cellsOf ts = 1)
    (hg : ∀ x ∈ l, P.globalNamed x.1 = some x.2.1 ∧ (P.globals[x.2.1]?).map (·.type) = some ti) (hn : (l.map (·.2.1)).Nodup) : ∃ e : Nat → Addr, Sents W tp (l.map (·.2.1)) e := by
  obtain ⟨ps, hv, hnd, hrows⟩ := h
  obtain ⟨e, hS, _⟩ := laid_sents_aux hi hrow hp he hft hfo hs hc hcs l ps hv hnd hrows hg hn
  exact ⟨e, hS⟩
end Go.Proofs.YtbcppmcjbcnlbaaDoor
