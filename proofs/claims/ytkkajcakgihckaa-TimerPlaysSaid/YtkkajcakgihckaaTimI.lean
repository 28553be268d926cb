/- A timer in memory: its heap, its map, its list in order. -/
import Derived.Test.YtkkajcakgihckaaTimG
namespace Go.Proofs.Ytkkajcakgihckaa
open Go.RowKit

/-- Where a timer lies. -/
structure TiG where
  S : List Nat
  m : Nat
  v : Value
  N : Nat
  f : Nat → EnB
  φ : Int → Option Nat
def TiG.F (G : TiG) : List Nat := G.m :: G.S

structure TiA (w : World) (t n : Nat) (L : List Ke) (G : TiG) : Prop where
  row : HN w G.S t G.m G.v G.N G.f
  heap : Heap EnB.le G.f G.N
  perm : ((lst G.f G.N).map EnB.k).Perm L
  good : TiGood L
  map_ : MpAt w G.m n G.φ
  mS : G.m ∉ G.S
  hit : ∀ k, k < G.N → G.φ (G.f k).k.key = some (G.f k).b
  mis : ∀ key, (∀ k, k < G.N → (G.f k).k.key ≠ key) → G.φ key = none

/-- The timer at t, that lies in the blocks F, holds L. -/
def TiAt (w : World) (F : List Nat) (t n : Nat) (L : List Ke) : Prop := ∃ G, TiA w t n L G ∧ G.F = F

theorem lst_map (f : Nat → EnB) (n : Nat) : (lst f n).map EnB.k = lst (fun k => (f k).k) n := by simp [lst]

section
variable {w w' : World} {t n : Nat} {L : List Ke} {G : TiG} {S F : List Nat}
theorem TiA.keeps (h : TiA w t n L G) (hk : Keeps S w w') (hn : ∀ k ∈ G.F, k ∉ S) : TiA w' t n L G :=
  ⟨h.row.keeps hk (fun k hk' => hn k (List.mem_cons_of_mem _ hk')), h.heap, h.perm, h.good, h.map_.keeps hk (hn _ List.mem_cons_self), h.mS, h.hit, h.mis⟩
theorem TiAt.keeps (h : TiAt w F t n L) (hk : Keeps S w w') (hn : ∀ k ∈ F, k ∉ S) : TiAt w' F t n L := by
  obtain ⟨G, h1, rfl⟩ := h
  exact ⟨G, h1.keeps hk hn, rfl⟩
theorem TiAt.mono {n' : Nat} (h : TiAt w F t n L) (hn : n ≤ n') : TiAt w F t n' L := by
  obtain ⟨G, h1, rfl⟩ := h
  exact ⟨G, ⟨h1.row, h1.heap, h1.perm, h1.good, h1.map_.mono hn, h1.mS, h1.hit, h1.mis⟩, rfl⟩
theorem TiAt.good (h : TiAt w F t n L) : TiGood L := by obtain ⟨G, h1, _⟩ := h; exact h1.good
theorem TiAt.tF (h : TiAt w F t n L) : t ∈ F := by obtain ⟨G, h1, rfl⟩ := h; exact List.mem_cons_of_mem _ h1.row.tS
theorem TiA.len (h : TiA w t n L G) : G.N = L.length := by have := h.perm.length_eq; rwa [List.length_map, lst_length] at this
theorem TiA.keys (h : TiA w t n L G) {i j : Nat} (hi : i < G.N) (hj : j < G.N) (hij : i ≠ j) : (G.f i).k.key ≠ (G.f j).k.key := by
  have ho : ((lst G.f G.N).map EnB.k).Pairwise fun a b => a.key ≠ b.key := (h.perm.pairwise_iff (fun {a b} h => fun e => h e.symm)).2 h.good.ok.one
  rw [List.pairwise_iff_getElem] at ho
  have hlen : ((lst G.f G.N).map EnB.k).length = G.N := by simp [lst_length]
  have hat : ∀ k (hk : k < G.N), ((lst G.f G.N).map EnB.k)[k]'(by omega) = (G.f k).k := fun k hk => by simp [lst]
  rcases Nat.lt_or_gt_of_ne hij with hl | hl
  · have := ho i j (by omega) (by omega) hl
    rwa [hat i hi, hat j hj] at this
  · have := ho j i (by omega) (by omega) hl
    rw [hat i hi, hat j hj] at this
    exact fun e => this e.symm
theorem TiA.mem (h : TiA w t n L G) {x : Ke} : x ∈ L ↔ ∃ k, k < G.N ∧ (G.f k).k = x := by
  rw [← h.perm.mem_iff, List.mem_map]
  constructor
  · rintro ⟨y, hy, rfl⟩
    obtain ⟨k, hk, rfl⟩ := mem_lst.1 hy
    exact ⟨k, hk, rfl⟩
  · rintro ⟨k, hk, rfl⟩
    exact ⟨_, mem_lst.2 ⟨k, hk, rfl⟩, rfl⟩
/-- Where a key's entry stands, if anywhere. -/
theorem TiA.find (h : TiA w t n L G) (key : Int) : (G.φ key = none ∧ findL L key = none) ∨ (∃ i, i < G.N ∧ (G.f i).k.key = key ∧ G.φ key = some (G.f i).b ∧ findL L key = some (G.f i).k.at_) := by
  rcases Classical.em (∃ i, i < G.N ∧ (G.f i).k.key = key) with ⟨i, hi, hk⟩ | hn
  · refine .inr ⟨i, hi, hk, by rw [← hk]; exact h.hit i hi, ?_⟩
    refine (findL_some h.good.ok).2 (h.mem.2 ⟨i, hi, ?_⟩)
    rw [← hk]
  · have hn2 : ∀ k, k < G.N → (G.f k).k.key ≠ key := fun k hk e => hn ⟨k, hk, e⟩
    refine .inl ⟨h.mis key hn2, findL_none.2 fun x hx => ?_⟩
    obtain ⟨k, hk, rfl⟩ := h.mem.1 hx
    exact hn2 k hk
theorem TiA.next (h : TiA w t n L G) : (G.N = 0 ∧ L = []) ∨ (0 < G.N ∧ ∃ l, L = (G.f 0).k :: l) := by
  cases L with
  | nil => exact .inl ⟨h.len, rfl⟩
  | cons x l =>
    have hl := h.len
    rw [List.length_cons] at hl
    refine .inr ⟨by omega, l, ?_⟩
    have hp := h.perm
    rw [lst_map] at hp
    rw [heap_head (f := fun k => (G.f k).k) (n := G.N) h.heap hp h.good.ok.srt]
/-- A timer from which one was taken. -/
theorem TiA.took {w1 w2 : World} {N g cap i : Nat} {f' : Nat → EnB} (h : TiA w t n L G) (hN : G.N = N + 1) (hi : i < N + 1) (hr : HR w1 G.S t G.m g cap N f') (hh : Heap EnB.le f' N) (hp : (lst f' N ++ [G.f i]).Perm (lst G.f (N + 1)))
    (hm : MpAt w2 G.m n (fun k => if k = (G.f i).k.key then none else G.φ k)) (hk : Keeps [G.m] w1 w2) : TiAt w2 G.F t n (cancelL L (G.f i).k.key) := by
  have hmem : ∀ k, k < N → ∃ j, j < N + 1 ∧ j ≠ i ∧ G.f j = f' k := fun k hk => by
    have h1 : f' k ∈ lst G.f (N + 1) := hp.subset (List.mem_append_left _ (mem_lst.2 ⟨k, hk, rfl⟩))
    obtain ⟨j, hj, e⟩ := mem_lst.1 h1
    refine ⟨j, hj, fun hji => ?_, e⟩
    subst hji
    have hd : (lst G.f (N + 1)).Pairwise fun a b => a.k.key ≠ b.k.key := by
      rw [List.pairwise_iff_getElem]
      intro a b ha hb hab
      simp only [lst_length] at ha hb
      simp only [lst, List.getElem_map, List.getElem_range]
      exact h.keys (by omega) (by omega) (by omega)
    have hd2 := (hp.pairwise_iff (fun {a b} h => fun e => h e.symm)).2 hd
    rw [List.pairwise_append] at hd2
    exact hd2.2.2 (f' k) (mem_lst.2 ⟨k, hk, rfl⟩) (G.f j) (by simp) (by rw [e])
  refine ⟨⟨G.S, G.m, .slice (some ⟨g, 0, none⟩) N cap, N, f', fun k => if k = (G.f i).k.key then none else G.φ k⟩, ⟨hr.hn.keeps hk (fun k hk' hm' => ?_), hh, ?_, h.good.cancel _, hm, h.mS, fun k hk' => ?_, fun key hkey => ?_⟩, rfl⟩
  · simp only [List.mem_singleton] at hm'; subst hm'; exact h.mS hk'
  · have hp2 := hp.map EnB.k
    rw [List.map_append, ← hN] at hp2
    exact perm_cancel h.good.ok (hp2.trans h.perm)
  · obtain ⟨j, hj, hji, e⟩ := hmem k hk'
    show (if (f' k).k.key = (G.f i).k.key then none else G.φ (f' k).k.key) = some (f' k).b
    rw [← e, if_neg (h.keys (by omega) (by omega) hji)]
    exact h.hit j (by omega)
  · show (if key = (G.f i).k.key then none else G.φ key) = none
    by_cases e : key = (G.f i).k.key
    · rw [if_pos e]
    · rw [if_neg e]
      refine h.mis key fun j hj ej => ?_
      have hj1 : G.f j ∈ lst f' N ++ [G.f i] := hp.symm.subset (mem_lst.2 ⟨j, by omega, rfl⟩)
      rcases List.mem_append.1 hj1 with h1 | h1
      · obtain ⟨k, hk', e2⟩ := mem_lst.1 h1
        exact hkey k hk' (by show (f' k).k.key = key; rw [e2]; exact ej)
      · simp only [List.mem_singleton] at h1
        exact e (by rw [← h1, ej])
end
end Go.Proofs.Ytkkajcakgihckaa
