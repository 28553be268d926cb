/- A range over an iterator that hands out a fixed list, and turns some blocks of its own between the rounds; no round ends the range. No program in sight. -/
import Derived.Test.YtkkajcakgihckaaIter
namespace Go.Proofs.Ytkkajcakgihckaa
open Go.RowKit Go.Shelf

/-- The contract of an iterator that turns the blocks F: what the caller says (J) is free of them. -/
def SeqE {α : Type} (Fe : Fence) (n : Nat) (P : Program) (g : Nat) (lb : Array Value) (encs : α → Array Value) (ys : List α) (F : List Nat) (T : World → Prop) (w0 : World) : Prop :=
  ∀ (l : Nat) (J : List α → World → Prop) (W : World), (∀ k ∈ F, W.heap[k]? = w0.heap[k]?) → w0.heap.size ≤ W.heap.size → (∀ s A A', J s A → Keeps F A A' → J s A') →
    (∀ pre x W1, J pre W1 → pre ++ [x] <+: ys → YieldAt Fe (n - 1) P l (encs x) W1 fun e W' => e = .returned (.bool true) ∧ J (pre ++ [x]) W' ∧ W1.heap.size ≤ W'.heap.size ∧ ∀ k ∈ F, W'.heap[k]? = W1.heap[k]?) →
    J [] W →
    CallsIn Fe n P g (#[.func (.yield l) #[] #[]] ++ lb) W fun e W' => (∃ v, e = .returned v) ∧ J ys W' ∧ T W'

/-- How a round's body may end. -/
def roundE {α : Type} (B : Nat) (F : List Nat) (I : List α → World → Prop) (xs : List α) (W : World) : Exit → Act → World → Prop
  | .normal, _, W' => W.heap.size ≤ W'.heap.size ∧ (∀ k ∈ B :: (B + 1) :: F, W'.heap[k]? = W.heap[k]?) ∧ I xs W'
  | _, _, _ => False

theorem keeps_putObj {S : List Nat} {l : Nat} (W : World) (o : Obj) (hl : l ∈ S) : Keeps S W (W.putObj l o) :=
  ⟨rfl, rfl, rfl, by simp, fun k _ hn => World.putObj_heap_other (fun e => hn (e ▸ hl))⟩

variable {F : Fence} {n : Nat} {P : Program}

theorem wpIn_rangeE {α : Type} {g : Operand} {ps : Array Tmp} {assign body : Code} {Q : Exit → Act → World → Prop} {a : Act} {w : World}
    (hro : F.round = none) (h1 : 1 ≤ n) {gf : Nat} {lb : Array Value} (hg : a.eval g = .func (.func gf) #[] lb) (hFg : F.fn gf) (eg : ∀ args w, (callFunc gf args).run P w = .ok (.enter gf args) w)
    {encs : α → Array Value} {ys : List α} {Fp : List Nat} {T : World → Prop} (hseq : SeqE F (n - 1) P gf lb encs ys Fp T w) (hFp : ∀ k ∈ Fp, k < w.heap.size) (hps : ∀ x, (encs x).size = ps.size)
    (I : List α → World → Prop) (hI : ∀ s A A', I s A → Keeps (w.heap.size :: (w.heap.size + 1) :: Fp) A A' → I s A') (hT : ∀ A A', T A → Below w.heap.size A A' → T A') (h0 : I [] w) (a₁ : α → Act)
    (hassign : ∀ (l : Nat) (x : α) (W : World) (K : Act → World → Prop), K (a₁ x) W →
      assign.wpIn (F.inRound l) (n - 1 - 1) P (Exit.then K (fun _ _ _ => False)) { tmps := (ps.zip (encs x)).foldl (fun t (p, v) => t.setIfInBounds p v) a.tmps, defers := [] } W)
    (hbody : ∀ (l : Nat) (pre : List α) (x : α) (W : World), I pre W → pre ++ [x] <+: ys → w.heap.size + 2 ≤ W.heap.size → body.wpIn (F.inRound l) (n - 1 - 1) P (roundE w.heap.size Fp I (pre ++ [x]) W) (a₁ x) W)
    (hdone : ∀ (W : World), I ys W → T W → w.heap.size + 2 ≤ W.heap.size → W.heap[w.heap.size]? = some (.deferred (some [])) → Q .normal { a with defers := { target := .collected w.heap.size, args := #[] } :: a.defers } W) :
    (Code.rangeFunc g ps assign body).wpIn F n P Q a w := by
  refine wpIn_rangeFunc fun fn hfn => ?_
  rw [hro]
  let D := w.heap.size
  let l := w.heap.size + 1
  let rec_ : LoopState → Option Code → Loop := fun st pe => { state := st, pending := pe, fn, tmps := a.tmps, params := ps, assign, body, defers := D }
  let W1 := (w.alloc (.deferred (some []))).alloc (.loop (rec_ .ready none))
  have hs1 : W1.heap.size = w.heap.size + 2 := by simp [W1]
  have hL : W1.heap[l]? = some (.loop (rec_ .ready none)) := by
    have := World.alloc_heap_new (w.alloc (.deferred (some []))) (.loop (rec_ .ready none))
    rwa [World.size_alloc] at this
  have hD : W1.heap[D]? = some (.deferred (some [])) := (Below.heap_alloc _ _ _ (by simp [D])).trans (World.alloc_heap_new w _)
  have hb1 : Below w.heap.size w W1 := ((Below.refl _ w).alloc (Nat.le_refl _) _).alloc (by simp) _
  have hlF : l ∉ Fp := fun hm => by have := hFp l hm; omega
  have hDF : D ∉ Fp := fun hm => by have := hFp D hm; omega
  refine ⟨l, [{ target := .collected D, args := #[] }], W1, { target := .fn (.func gf) lb, args := #[.func (.yield l) #[] #[]] }, W1, gf, #[.func (.yield l) #[] #[]] ++ lb, W1, run_enterLoop_outer _ _ _ _ _, ?_, ?_, ?_, fun _ => h1, ?_⟩
  · simp only [resolve, hg]; simp [go_sem]
  · intro f' hf'; simp [Target.leads] at hf'; subst hf'; exact hFg
  · simp [invoke, go_sem, eg]
  have hk1 : Keeps (w.heap.size :: (w.heap.size + 1) :: Fp) w W1 := Keeps.of_below hb1 _
  have hin : l ∈ (w.heap.size :: (w.heap.size + 1) :: Fp) := by simp [l]
  refine (hseq l
    (fun pre W => I pre W ∧ W1.heap.size ≤ W.heap.size ∧ W.heap[l]? = some (.loop (rec_ .ready none)) ∧ W.heap[D]? = some (.deferred (some [])))
    W1 (fun k hk => hb1.block k (hFp k hk)) hb1.size
    (fun s A A' hs hK => ⟨hI s A A' hs.1 (hK.mono (fun k hk => List.mem_cons_of_mem _ (List.mem_cons_of_mem _ hk))), Nat.le_trans hs.2.1 hK.size, (hK.block l (by omega) hlF).trans hs.2.2.1, (hK.block D (by omega) hDF).trans hs.2.2.2⟩)
    ?_ ⟨hI _ _ _ h0 hk1, Nat.le_refl _, hL, hD⟩).mono ?_
  · rintro pre x W ⟨hi, hsz, hl, hd⟩ hpre
    have hlt : l < W.heap.size := by omega
    refine ⟨fn, _, assign, body, run_yield (P := P) (args := encs x) hl (hps x), roundIn_of_wpIn hfn (hassign _ x W _ ⟨_, run_beginRound hl rfl, ?_⟩)⟩
    have hl2 : (W.putObj l (.loop { rec_ .ready none with state := .busy })).heap[l]? = some (.loop { rec_ .ready none with state := .busy }) := World.putObj_heap_same hlt
    have hd2 : (W.putObj l (.loop { rec_ .ready none with state := .busy })).heap[D]? = some (.deferred (some [])) := (World.putObj_heap_other (by omega)).trans hd
    have hF2 : ∀ k ∈ Fp, (W.putObj l (.loop { rec_ .ready none with state := .busy })).heap[k]? = W.heap[k]? := fun k hk => World.putObj_heap_other (by intro e; apply hlF; first | (rw [← e]; exact hk) | (rw [e]; exact hk))
    refine wpIn_mono (hbody _ pre x _ (hI _ _ _ hi (keeps_putObj W _ hin)) hpre (by simp; omega)) ?_
    rintro e a3 W3 hp
    cases e with
    | normal =>
      obtain ⟨hp1, hp2, hp3⟩ := hp
      rw [World.putObj_size] at hp1
      have hl3 : W3.heap[l]? = some (.loop { rec_ .ready none with state := .busy }) := (hp2 l hin).trans hl2
      have hd3 : W3.heap[D]? = some (.deferred (some [])) := (hp2 D (by simp [D])).trans hd2
      refine ⟨_, _, run_endRound (P := P) none hl3, rfl, ⟨hI _ _ _ hp3 (keeps_putObj W3 _ hin), by simp; omega, World.putObj_heap_same (by omega), (World.putObj_heap_other (by omega)).trans hd3⟩, by simp; omega, fun k hk => ?_⟩
      exact (World.putObj_heap_other (by intro e; apply hlF; first | (rw [← e]; exact hk) | (rw [e]; exact hk))).trans ((hp2 k (List.mem_cons_of_mem _ (List.mem_cons_of_mem _ hk))).trans (hF2 k hk))
    | ret => exact hp.elim
    | exit id => exact hp.elim
    | goto t => exact hp.elim
    | panic ch => exact hp.elim
    | outgrown => exact hp.elim
  · rintro e W2 ⟨⟨v, rfl⟩, ⟨hi, hsz, hl, hd⟩, ht⟩
    exact ⟨none, _, run_endLoop (P := P) hl (by simp [rec_]), hdone _ (hI _ _ _ hi (keeps_putObj W2 _ hin)) (hT _ _ ht ((Below.refl w.heap.size W2).grown (grownBy_putObj' W2 l _) (by omega) (fun k e => by cases e; omega))) (by simp; omega) ((World.putObj_heap_other (by omega)).trans hd)⟩
end Go.Proofs.Ytkkajcakgihckaa
