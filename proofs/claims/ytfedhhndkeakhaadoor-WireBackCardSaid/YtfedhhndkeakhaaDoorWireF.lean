/- WireF: one frame's cut, as a law calls it; small words for the laws. -/
import Derived.Test.YtfedhhndkeakhaaDoorWireLaw
namespace Go.Proofs.YtfedhhndkeakhaaDoor
open Go.RowKit Go.Shelf

theorem frB_refl (f : Fr) : frB f f = true := (frB_iff f f).2 rfl
theorem number_eq (s : ByteArray) (hs : s.size ≤ maxLen) (m : Int) (hm : num2 s = m) (w : World) :
    Calls Tryd.prog 21 #[.string s] w fun r w' => r = .returned (.int .i64 m) ∧ Keeps [] w w' := by
  subst hm
  exact (number_any s hs w).mono fun r w' ⟨h1, n, h2⟩ => ⟨h1, h2 ▸ (Keeps.refl [] w).drewN n⟩
theorem rnumber_k (s : ByteArray) (hs : s.size ≤ maxLen) (m : Int) (hm : num2 s = m) (w : World) :
    Calls Tryd.prog 22 #[.string s] w fun r w' => r = .returned (.int .i64 m) ∧ Keeps [] w w' := by
  subst hm
  exact (rnumber_any s hs w).mono fun r w' ⟨h1, n, h2⟩ => ⟨h1, h2 ▸ (Keeps.refl [] w).drewN n⟩
theorem blk_set3 {w : World} {b : Nat} {t : TypeId} {p q r : Value} (h : Blk w b t #[p, q, r]) (x y z : Value) :
    Blk (((w.setCell ⟨b, 0, none⟩ x).setCell ⟨b, 1, none⟩ y).setCell ⟨b, 2, none⟩ z) b t #[x, y, z] := ((h.set_ 0 x).set_ 1 y).set_ 2 z
theorem Keeps.read {w w' : World} (h : Keeps [] w w') {p : Addr} {v : Value} (hc : w.cell? p = some v) : w'.cell? p = some v := by
  have hl : p.block < w.heap.size := by
    apply Decidable.byContradiction
    intro hn
    have : w.heap[p.block]? = none := Array.getElem?_eq_none (by omega)
    unfold World.cell? at hc
    simp [this] at hc
  exact (h.cell hl (by simp)).trans hc
theorem held3 {w w' w'' : World} (hk : Keeps [] w' w'') {p0 p1 p2 : Addr} {v0 v1 v2 : Value} (h : Keeps [] w w' ∧ w'.cell? p0 = some v0 ∧ w'.cell? p1 = some v1 ∧ w'.cell? p2 = some v2) :
    Keeps [] w w'' ∧ w''.cell? p0 = some v0 ∧ w''.cell? p1 = some v1 ∧ w''.cell? p2 = some v2 := by
  obtain ⟨h, h0, h1, h2⟩ := h
  exact ⟨h.trans hk, hk.read h0, hk.read h1, hk.read h2⟩
theorem held6 {w w' w'' : World} (hk : Keeps [] w' w'') {p0 p1 p2 p3 p4 p5 : Addr} {v0 v1 v2 v3 v4 v5 : Value} (h : Keeps [] w w' ∧ w'.cell? p0 = some v0 ∧ w'.cell? p1 = some v1 ∧ w'.cell? p2 = some v2 ∧ w'.cell? p3 = some v3 ∧ w'.cell? p4 = some v4 ∧ w'.cell? p5 = some v5) :
    Keeps [] w w'' ∧ w''.cell? p0 = some v0 ∧ w''.cell? p1 = some v1 ∧ w''.cell? p2 = some v2 ∧ w''.cell? p3 = some v3 ∧ w''.cell? p4 = some v4 ∧ w''.cell? p5 = some v5 := by
  obtain ⟨h, h0, h1, h2, h3, h4, h5⟩ := h
  exact ⟨h.trans hk, hk.read h0, hk.read h1, hk.read h2, hk.read h3, hk.read h4, hk.read h5⟩
theorem held9 {w w' w'' : World} (hk : Keeps [] w' w'') {p0 p1 p2 p3 p4 p5 p6 p7 p8 : Addr} {v0 v1 v2 v3 v4 v5 v6 v7 v8 : Value} (h : Keeps [] w w' ∧ w'.cell? p0 = some v0 ∧ w'.cell? p1 = some v1 ∧ w'.cell? p2 = some v2 ∧ w'.cell? p3 = some v3 ∧ w'.cell? p4 = some v4 ∧ w'.cell? p5 = some v5 ∧ w'.cell? p6 = some v6 ∧ w'.cell? p7 = some v7 ∧ w'.cell? p8 = some v8) :
    Keeps [] w w'' ∧ w''.cell? p0 = some v0 ∧ w''.cell? p1 = some v1 ∧ w''.cell? p2 = some v2 ∧ w''.cell? p3 = some v3 ∧ w''.cell? p4 = some v4 ∧ w''.cell? p5 = some v5 ∧ w''.cell? p6 = some v6 ∧ w''.cell? p7 = some v7 ∧ w''.cell? p8 = some v8 := by
  obtain ⟨h, h0, h1, h2, h3, h4, h5, h6, h7, h8⟩ := h
  exact ⟨h.trans hk, hk.read h0, hk.read h1, hk.read h2, hk.read h3, hk.read h4, hk.read h5, hk.read h6, hk.read h7, hk.read h8⟩

/-- Cut([]api.Frame{f}) at its call. -/
theorem cut1_any (k st : Int) (d d' : ByteArray) (hx : d.size ≤ maxLen) (hc : d.extract 0 (min d.size 513) = d') (w : World) :
    Calls Tryd.prog 11 #[.slice (some ⟨w.heap.size, 0, none⟩) 1 1] (w.alloc (.cells #[.int .i64 k, .int .i64 st, .string d] 23)) fun r w' =>
      ∃ g off c, r = .returned (.slice (some ⟨g, off, none⟩) 1 c) ∧ 1 ≤ c ∧ w'.cell? ⟨g, off, none⟩ = some (.int .i64 k) ∧ w'.cell? ⟨g, off + 1, none⟩ = some (.int .i64 st) ∧ w'.cell? ⟨g, off + 2, none⟩ = some (.string d') ∧ Keeps [] w w' := by
  have hb := Blk.new w 23 #[.int .i64 k, .int .i64 st, .string d]
  refine (cutfrs_any (w.alloc (.cells #[.int .i64 k, .int .i64 st, .string d] 23)) w.heap.size 0 1 [⟨k, st, d⟩] ?_ hb.lt (by simp) ?_).mono ?_
  · intro i hi
    obtain rfl : i = 0 := by simpa using hi
    exact ⟨hb.cell 0, hb.cell 1, hb.cell 2⟩
  · intro x hm
    obtain rfl : x = ⟨k, st, d⟩ := by simpa using hm
    exact hx
  · rintro r w' ⟨v, rfl, hrow, hbel⟩
    obtain ⟨a, c, rfl, hl, hin⟩ := frs_of_row hrow
    have e1 : cutFrs [⟨k, st, d⟩] = [⟨k, st, d'⟩] := by rw [← hc]; rfl
    rw [e1] at hl hin ⊢
    obtain ⟨g, off, rfl, _, hat⟩ := hin (by simp)
    obtain ⟨h0, h1, h2⟩ := hat 0 (by simp)
    exact ⟨g, off, c, rfl, hl, by simpa using h0, by simpa using h1, by simpa using h2, ((Keeps.refl [] w).alloc _).trans (Keeps.of_below hbel [])⟩
end Go.Proofs.YtfedhhndkeakhaaDoor
