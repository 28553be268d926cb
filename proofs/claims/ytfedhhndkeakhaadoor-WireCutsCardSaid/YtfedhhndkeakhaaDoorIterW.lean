/- A range over an iterator that ends by a step of its own, and whose rounds all go on. No program in sight. -/
import Derived.Test.YtfedhhndkeakhaaDoorIterB
import Derived.Test.YtfedhhndkeakhaaDoorLaid
import Derived.RangeFuncOwn
namespace Go.Proofs.YtfedhhndkeakhaaDoor
open Go.RowKit Go.Shelf

/-- Each block of cells lies as it lay, and whatever lies below B. -/
structure Kept (B : Nat) (A A' : World) : Prop where
  size : A.heap.size ≤ A'.heap.size
  os : A'.os = A.os
  tape : A'.tape = A.tape
  output : A'.output = A.output
  low : ∀ k, k < B → k < A.heap.size → A'.heap[k]? = A.heap[k]?
  cells : ∀ (k : Nat) (o : Obj), A.heap[k]? = some o → o.isCells = true → A'.heap[k]? = some o
theorem Kept.of_keeps {B : Nat} {A A' : World} (h : Keeps [] A A') : Kept B A A' :=
  ⟨h.size, h.os, h.tape, h.output, fun k _ hk => h.block k hk (by simp), fun k _ hk _ => (h.block k (Array.getElem?_eq_some_iff.1 hk).1 (by simp)).trans hk⟩
theorem Kept.put {B l : Nat} {A : World} {o : Obj} (h : A.heap[l]? = some o) (hc : o.isCells = false) (hl : B ≤ l) (o' : Obj) : Kept B A (A.putObj l o') :=
  ⟨by simp, rfl, rfl, rfl, fun k hk _ => World.putObj_heap_other (by omega), fun k x hk hx => by
    have : k ≠ l := by
      rintro rfl
      rw [h] at hk; cases hk; rw [hc] at hx; cases hx
    exact (World.putObj_heap_other this).trans hk⟩
theorem Kept.blk {B : Nat} {A A' : World} (h : Kept B A A') {g : Nat} {t : TypeId} {cs : Array Value} (hb : Blk A g t cs) : Blk A' g t cs := h.cells g _ hb rfl
theorem Kept.below {B B' : Nat} {w A A' : World} (h : Kept B A A') (hb : Below B' w A) (hB : B' ≤ B) (hs : B' ≤ A.heap.size) : Below B' w A' :=
  hb.trans ⟨h.os, h.tape, h.output, h.size, fun k hk => h.low k (by omega) (by omega)⟩
theorem Kept.ownsRow {B : Nat} {A A' : World} (h : Kept B A A') {base : Nat} {e : TypeId} {size : Nat} {v : Value} {n : Nat} {xs : List Value} (hr : A.ownsRow base e size v n xs) : A'.ownsRow base e size v n xs := by
  obtain ⟨h1, h2⟩ := hr
  refine ⟨h1, ?_⟩
  rcases h2 with h2 | ⟨g, cap, cur, h3, h4, h5, h6⟩
  · exact .inl h2
  · exact .inr ⟨g, cap, cur, h3, h4, h.cells _ _ h5 rfl, h6⟩
theorem Kept.cell {B : Nat} {A A' : World} (h : Kept B A A') {p : Addr} {v : Value} (hp : A.cell? p = some v) : A'.cell? p = some v := by
  obtain ⟨o, h1, h2⟩ := cells_of_cell hp
  rw [World.cell?_of_block (w := A) (a := p) ((h.cells _ _ h1 h2).trans h1.symm)]
  exact hp
theorem Kept.frozen {B : Nat} {A A' : World} (h : Kept B A A') {p : Addr} {v : Value} (hp : A.cell? p = some v) : A'.frozen? p = A.frozen? p := by
  obtain ⟨o, h1, h2⟩ := cells_of_cell hp
  exact World.frozen?_of_block (w := A) (a := p) ((h.cells _ _ h1 h2).trans h1.symm)
theorem Kept.sents {B : Nat} {A A' : World} (h : Kept B A A') {tp : TypeId} {gs : List Nat} {e : Nat → Addr} (hs : Sents A tp gs e) : Sents A' tp gs e :=
  ⟨fun g hg => h.cell (hs.cell g hg), fun g hg => by
    obtain ⟨c, t, hb⟩ := hs.row g hg
    exact ⟨c, t, h.cells _ _ hb rfl⟩, hs.ne⟩

/-- The contract of an iterator whose rounds all go on, and that itself turns no block that lay there: it hands over ys, then ends by a step of its own (fin); V is what it reads. -/
def SeqW {α : Type} (F : Fence) (n : Nat) (P : Program) (g : Nat) (lb : Array Value) (encs : α → Array Value) (ys : List α) (V : World → Prop) (fin : World → World → Prop) (w0 : World) : Prop :=
  ∀ (l : Nat) (J : List α → World → Prop) (W : World), Below w0.heap.size w0 W → (∀ s A A', J s A → Keeps [] A A' → J s A') → (∀ s A, J s A → V A) →
    (∀ pre x W1, J pre W1 → pre.length < ys.length → YieldAt F (n - 1) P l (encs x) W1 fun e W' => e = .returned (.bool true) ∧ J (pre ++ [x]) W') →
    J [] W →
    CallsIn F n P g (#[.func (.yield l) #[] #[]] ++ lb) W fun e W' => (∃ v, e = .returned v) ∧ ∃ W2, J ys W2 ∧ fin W2 W'

/-- How a round's body ends. -/
def roundW {α : Type} (I : List α → World → Prop) (xs : List α) (W : World) : Exit → Act → World → Prop
  | .normal, _, W' => KeepsOthers W W' ∧ I xs W'
  | _, _, _ => False

variable {F : Fence} {n : Nat} {P : Program}

theorem wpIn_rangeW {α : Type} {g : Operand} {ps : Array Tmp} {assign body : Code} {Q : Exit → Act → World → Prop} {a : Act} {w : World}
    (hro : F.round = none) (h1 : 1 ≤ n) {gf : Nat} {lb : Array Value} (hg : a.eval g = .func (.func gf) #[] lb) (hFg : F.fn gf) (eg : ∀ args w, (callFunc gf args).run P w = .ok (.enter gf args) w)
    {encs : α → Array Value} {ys : List α} {V : World → Prop} {fin : World → World → Prop} {w0 : World} (hseq : SeqW F (n - 1) P gf lb encs ys V fin w0) (hb0 : Below w0.heap.size w0 w) (hps : ∀ x, (encs x).size = ps.size)
    (I : List α → World → Prop) (hI : ∀ s A A', I s A → Kept w.heap.size A A' → I s A') (hIV : ∀ s A, I s A → V A) (hfin : ∀ A A', fin A A' → KeepsOthers A A') (h0 : I [] w) (a₁ : α → Nat → Act) (o₁ : α → Obj) (_ho₁ : ∀ x, (o₁ x).isCells = true)
    (hassign : ∀ (l : Nat) (x : α) (W : World) (K : Act → World → Prop), K (a₁ x W.heap.size) (W.alloc (o₁ x)) →
      assign.wpIn (F.inRound l) (n - 1 - 1) P (Exit.then K (fun _ _ _ => False)) { tmps := (ps.zip (encs x)).foldl (fun t (p, v) => t.setIfInBounds p v) a.tmps, defers := [] } W)
    (hbody : ∀ (l : Nat) (pre : List α) (x : α) (b : Nat) (W : World), I pre W → pre.length < ys.length → w.heap.size ≤ b → W.heap[b]? = some (o₁ x) → body.wpIn (F.inRound l) (n - 1 - 1) P (roundW I (pre ++ [x]) W) (a₁ x b) W)
    (hdone : ∀ (D q : Nat) (o o0 : Obj) (A A' : World), w.heap.size ≤ D → w.heap.size ≤ q → I ys A → fin A A' → A'.heap[q]? = some o0 → o0.isCells = false → (A'.putObj q o).heap[D]? = some (.deferred (some [])) → Q .normal { a with defers := { target := .collected D, args := #[] } :: a.defers } (A'.putObj q o)) :
    (Code.rangeFunc g ps assign body).wpIn F n P Q a w := by
  refine wpIn_rangeFunc fun fn hfn => ?_
  rw [hro]
  let D := w.heap.size
  let l := w.heap.size + 1
  let rec_ : LoopState → Option Code → Loop := fun st pe => { state := st, pending := pe, fn, tmps := a.tmps, params := ps, assign, body, defers := D }
  let W1 := (w.alloc (.deferred (some []))).alloc (.loop (rec_ .ready none))
  have hs1 : W1.heap.size = w.heap.size + 2 := by simp [W1]
  have hL : W1.heap[l]? = some (.loop (rec_ .ready none)) := by
    have := World.alloc_heap_new (w.alloc (.deferred (some []))) (.loop (rec_ .ready none))
    rwa [World.size_alloc] at this
  have hD : W1.heap[D]? = some (.deferred (some [])) := (Below.heap_alloc _ _ _ (by simp [D])).trans (World.alloc_heap_new w _)
  have hb1 : Below w.heap.size w W1 := ((Below.refl _ w).alloc (Nat.le_refl _) _).alloc (by simp) _
  refine ⟨l, [{ target := .collected D, args := #[] }], W1, { target := .fn (.func gf) lb, args := #[.func (.yield l) #[] #[]] }, W1, gf, #[.func (.yield l) #[] #[]] ++ lb, W1, run_enterLoop_outer _ _ _ _ _, ?_, ?_, ?_, fun _ => h1, ?_⟩
  · simp only [resolve, hg]; simp [go_sem]
  · intro f' hf'; simp [Target.leads] at hf'; subst hf'; exact hFg
  · simp [invoke, go_sem, eg]
  have hle : w.heap.size ≤ W1.heap.size := by omega
  refine (hseq l
    (fun pre W => I pre W ∧ W1.heap.size ≤ W.heap.size ∧ W.heap[l]? = some (.loop (rec_ .ready none)) ∧ W.heap[D]? = some (.deferred (some [])))
    W1 (hb0.trans (hb1.mono hb0.size))
    (fun s A A' hs hB => ⟨hI s A A' hs.1 (Kept.of_keeps hB), Nat.le_trans hs.2.1 hB.size, (hB.block l (by have := (Array.getElem?_eq_some_iff.1 hs.2.2.1).1; omega) (by simp)).trans hs.2.2.1, (hB.block D (by have := (Array.getElem?_eq_some_iff.1 hs.2.2.2).1; omega) (by simp)).trans hs.2.2.2⟩)
    (fun s A hs => hIV s A hs.1)
    ?_ ⟨hI _ _ _ h0 (Kept.of_keeps (Keeps.of_below hb1 [])), Nat.le_refl _, hL, hD⟩).mono ?_
  · rintro pre x W ⟨hi, hsz, hl, hd⟩ hlen
    have hlt : l < W.heap.size := by omega
    have hla : (W.alloc (o₁ x)).heap[l]? = some (.loop (rec_ .ready none)) := (Below.heap_alloc _ _ _ hlt).trans hl
    have hda : (W.alloc (o₁ x)).heap[D]? = some (.deferred (some [])) := (Below.heap_alloc _ _ _ (by omega)).trans hd
    have hlta : l < (W.alloc (o₁ x)).heap.size := (Array.getElem?_eq_some_iff.1 hla).1
    refine ⟨fn, _, assign, body, run_yield (P := P) (args := encs x) hl (hps x), roundIn_of_wpIn hfn (hassign _ x W _ ⟨_, run_beginRound hla rfl, ?_⟩)⟩
    have hl2 : ((W.alloc (o₁ x)).putObj l (.loop { rec_ .ready none with state := .busy })).heap[l]? = some (.loop { rec_ .ready none with state := .busy }) := World.putObj_heap_same hlta
    have hd2 : ((W.alloc (o₁ x)).putObj l (.loop { rec_ .ready none with state := .busy })).heap[D]? = some (.deferred (some [])) := (World.putObj_heap_other (by omega)).trans hda
    have hb2 : ((W.alloc (o₁ x)).putObj l (.loop { rec_ .ready none with state := .busy })).heap[W.heap.size]? = some (o₁ x) := (World.putObj_heap_other (by omega)).trans (World.alloc_heap_new W (o₁ x))
    have hi2 := hI _ _ _ hi (Kept.of_keeps ((Keeps.refl [] W).alloc (o₁ x)))
    refine wpIn_mono (hbody _ pre x _ _ (hI _ _ _ hi2 (Kept.put hla rfl (by omega) _)) hlen (by omega) hb2) ?_
    rintro e a3 W3 hp
    have go_on : KeepsOthers ((W.alloc (o₁ x)).putObj l (.loop { rec_ .ready none with state := .busy })) W3 →
        (Instr.endRound l none).run P W3 = .ok (.bool true) (W3.putObj l (.loop (rec_ .ready none))) ∧ W1.heap.size ≤ W3.heap.size ∧ W3.heap[l]? = some (.loop { rec_ .ready none with state := .busy }) ∧
        (W3.putObj l (.loop (rec_ .ready none))).heap[l]? = some (.loop (rec_ .ready none)) ∧
        (W3.putObj l (.loop (rec_ .ready none))).heap[D]? = some (.deferred (some [])) := fun hk => by
      have hl3 : W3.heap[l]? = some (.loop { rec_ .ready none with state := .busy }) := hk.same l _ hl2 rfl
      have hd3 : W3.heap[D]? = some (.deferred (some [])) := hk.same D _ hd2 rfl
      have hk1 := hk.size
      rw [World.putObj_size, World.size_alloc] at hk1
      have hlt3 : l < W3.heap.size := (Array.getElem?_eq_some_iff.1 hl3).1
      exact ⟨run_endRound (P := P) none hl3, by omega, hl3, World.putObj_heap_same hlt3, (World.putObj_heap_other (by omega)).trans hd3⟩
    cases e with
    | normal =>
      obtain ⟨hr, hs3, hl3, hl4, hd4⟩ := go_on hp.1
      exact ⟨_, _, hr, rfl, hI _ _ _ hp.2 (Kept.put hl3 rfl (by omega) _), by simp; omega, hl4, hd4⟩
    | ret => exact hp.elim
    | exit id => exact hp.elim
    | goto t => exact hp.elim
    | panic ch => exact hp.elim
    | outgrown => exact hp.elim
  · rintro e W3 ⟨⟨v, rfl⟩, W2, ⟨hi, hsz, hl, hd⟩, hf⟩
    have hfk := hfin _ _ hf
    have hl3 : W3.heap[l]? = some (.loop (rec_ .ready none)) := hfk.same l _ hl rfl
    have hd3 : W3.heap[D]? = some (.deferred (some [])) := hfk.same D _ hd rfl
    exact ⟨none, _, run_endLoop (P := P) hl3 (by simp [rec_]), hdone D l _ _ W2 W3 (Nat.le_refl _) (by omega) hi hf hl3 rfl ((World.putObj_heap_other (by omega)).trans hd3)⟩
end Go.Proofs.YtfedhhndkeakhaaDoor
