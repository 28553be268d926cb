/- A range over an iterator that hands out a fixed list and reads nothing on the way; a round may write what lay before the call, and may end the range. No program in sight. -/
import Derived.Test.YtollcbacpoohlaaGreatDoorIterB
namespace Go.Proofs.YtollcbacpoohlaaGreatDoor
open Go.RowKit Go.Shelf

/-- The contract of an iterator. -/
def SeqD {α : Type} (F : Fence) (n : Nat) (P : Program) (g : Nat) (lb : Array Value) (encs : α → Array Value) (ys : List α) (w0 : World) : Prop :=
  ∀ (l : Nat) (J Jx : List α → World → Prop) (W : World), Below w0.heap.size w0 W → Low W.heap.size J → Low W.heap.size Jx →
    (∀ pre x W1, J pre W1 → pre ++ [x] <+: ys → YieldAt F (n - 1) P l (encs x) W1 fun e W' =>
      (e = .returned (.bool true) ∧ J (pre ++ [x]) W' ∧ FarK W.heap.size W1 W') ∨ (e = .returned (.bool false) ∧ Jx (pre ++ [x]) W')) →
    J [] W →
    CallsIn F n P g (#[.func (.yield l) #[] #[]] ++ lb) W fun e W' => (∃ v, e = .returned v) ∧ (J ys W' ∨ (∃ pre, pre <+: ys ∧ Jx pre W'))

variable {F : Fence} {n : Nat} {P : Program}

theorem wpIn_rangeD {α : Type} {g : Operand} {ps : Array Tmp} {assign body : Code} {Q : Exit → Act → World → Prop} {a : Act} {w : World}
    (hro : F.round = none) (h1 : 1 ≤ n) {gf : Nat} {lb : Array Value} (hg : a.eval g = .func (.func gf) #[] lb) (hFg : F.fn gf) (eg : ∀ args w, (callFunc gf args).run P w = .ok (.enter gf args) w)
    {encs : α → Array Value} {ys : List α} {w0 : World} (hseq : SeqD F (n - 1) P gf lb encs ys w0) (hb0 : Below w0.heap.size w0 w) (hps : ∀ x, (encs x).size = ps.size)
    (I Ix : List α → World → Prop) (hI : Low w.heap.size I) (hIx : Low w.heap.size Ix) (h0 : I [] w) (a₁ : α → Act)
    (hassign : ∀ (l : Nat) (x : α) (W : World) (K : Act → World → Prop), K (a₁ x) W →
      assign.wpIn (F.inRound l) (n - 1 - 1) P (Exit.then K (fun _ _ _ => False)) { tmps := (ps.zip (encs x)).foldl (fun t (p, v) => t.setIfInBounds p v) a.tmps, defers := [] } W)
    (hbody : ∀ (l : Nat) (pre : List α) (x : α) (W : World), I pre W → pre ++ [x] <+: ys → w.heap.size ≤ W.heap.size → body.wpIn (F.inRound l) (n - 1 - 1) P (roundB w.heap.size I Ix (pre ++ [x]) W) (a₁ x) W)
    (hdone : ∀ (D : Nat) (W : World), w.heap.size ≤ D → I ys W → W.heap[D]? = some (.deferred (some [])) → Q .normal { a with defers := { target := .collected D, args := #[] } :: a.defers } W)
    (hstop : ∀ (D : Nat) (pre : List α) (W : World), w.heap.size ≤ D → pre <+: ys → Ix pre W → W.heap[D]? = some (.deferred (some [])) → Code.ret.wpIn F n P Q { a with defers := { target := .collected D, args := #[] } :: a.defers } W) :
    (Code.rangeFunc g ps assign body).wpIn F n P Q a w := by
  refine wpIn_rangeFunc fun fn hfn => ?_
  rw [hro]
  let D := w.heap.size
  let l := w.heap.size + 1
  let rec_ : LoopState → Option Code → Loop := fun st pe => { state := st, pending := pe, fn, tmps := a.tmps, params := ps, assign, body, defers := D }
  let W1 := (w.alloc (.deferred (some []))).alloc (.loop (rec_ .ready none))
  have hs1 : W1.heap.size = w.heap.size + 2 := by simp [W1]
  have hL : W1.heap[l]? = some (.loop (rec_ .ready none)) := by
    have := World.alloc_heap_new (w.alloc (.deferred (some []))) (.loop (rec_ .ready none))
    rwa [World.size_alloc] at this
  have hD : W1.heap[D]? = some (.deferred (some [])) := (Below.heap_alloc _ _ _ (by simp [D])).trans (World.alloc_heap_new w _)
  have hb1 : Below w.heap.size w W1 := ((Below.refl _ w).alloc (Nat.le_refl _) _).alloc (by simp) _
  refine ⟨l, [{ target := .collected D, args := #[] }], W1, { target := .fn (.func gf) lb, args := #[.func (.yield l) #[] #[]] }, W1, gf, #[.func (.yield l) #[] #[]] ++ lb, W1, run_enterLoop_outer _ _ _ _ _, ?_, ?_, ?_, fun _ => h1, ?_⟩
  · simp only [resolve, hg]; simp [go_sem]
  · intro f' hf'; simp [Target.leads] at hf'; subst hf'; exact hFg
  · simp [invoke, go_sem, eg]
  have hle : w.heap.size ≤ W1.heap.size := by omega
  refine (hseq l
    (fun pre W => I pre W ∧ W1.heap.size ≤ W.heap.size ∧ W.heap[l]? = some (.loop (rec_ .ready none)) ∧ W.heap[D]? = some (.deferred (some [])))
    (fun pre W => Ix pre W ∧ W1.heap.size ≤ W.heap.size ∧ W.heap[l]? = some (.loop (rec_ .done (some .ret))) ∧ W.heap[D]? = some (.deferred (some [])))
    W1 (hb0.trans (hb1.mono hb0.size))
    (fun s A A' hs hB => ⟨hI s A A' hs.1 (hB.mono hle), Nat.le_trans hs.2.1 hB.size, (hB.block l (by omega)).trans hs.2.2.1, (hB.block D (by omega)).trans hs.2.2.2⟩)
    (fun s A A' hs hB => ⟨hIx s A A' hs.1 (hB.mono hle), Nat.le_trans hs.2.1 hB.size, (hB.block l (by omega)).trans hs.2.2.1, (hB.block D (by omega)).trans hs.2.2.2⟩)
    ?_ ⟨hI _ _ _ h0 hb1, Nat.le_refl _, hL, hD⟩).mono ?_
  · rintro pre x W ⟨hi, hsz, hl, hd⟩ hlen
    have hlt : l < W.heap.size := by omega
    refine ⟨fn, _, assign, body, run_yield (P := P) (args := encs x) hl (hps x), roundIn_of_wpIn hfn (hassign _ x W _ ⟨_, run_beginRound hl rfl, ?_⟩)⟩
    have hl2 : (W.putObj l (.loop { rec_ .ready none with state := .busy })).heap[l]? = some (.loop { rec_ .ready none with state := .busy }) := World.putObj_heap_same hlt
    have hd2 : (W.putObj l (.loop { rec_ .ready none with state := .busy })).heap[D]? = some (.deferred (some [])) := (World.putObj_heap_other (by omega)).trans hd
    have hf2 : FarK W1.heap.size W (W.putObj l (.loop { rec_ .ready none with state := .busy })) := FarK.putObj (by omega) _ _
    refine wpIn_mono (hbody _ pre x _ (hI.put _ hi (by omega) hlt) hlen (by simp; omega)) ?_
    rintro e a3 W3 hp
    have go_on : ∀ (jump : Option Code), FarK w.heap.size (W.putObj l (.loop { rec_ .ready none with state := .busy })) W3 →
        (Instr.endRound l jump).run P W3 = .ok (.bool jump.isNone) (W3.putObj l (.loop (rec_ (if jump.isNone then .ready else .done) jump))) ∧ l < W3.heap.size ∧ W1.heap.size ≤ W3.heap.size ∧
        (W3.putObj l (.loop (rec_ (if jump.isNone then .ready else .done) jump))).heap[l]? = some (.loop (rec_ (if jump.isNone then .ready else .done) jump)) ∧
        (W3.putObj l (.loop (rec_ (if jump.isNone then .ready else .done) jump))).heap[D]? = some (.deferred (some [])) ∧
        FarK W1.heap.size W (W3.putObj l (.loop (rec_ (if jump.isNone then .ready else .done) jump))) := fun jump hk => by
      have hk1 := hk.1
      rw [World.putObj_size] at hk1
      have hl3 : W3.heap[l]? = some (.loop { rec_ .ready none with state := .busy }) := (hk.2 l (by omega) (by simp; omega)).trans hl2
      have hd3 : W3.heap[D]? = some (.deferred (some [])) := (hk.2 D (by omega) (by simp; omega)).trans hd2
      exact ⟨run_endRound (P := P) jump hl3, by omega, by omega, World.putObj_heap_same (by omega), (World.putObj_heap_other (by omega)).trans hd3, (hf2.trans (hk.mono hle)).trans (FarK.putObj (by omega) _ _)⟩
    cases e with
    | normal =>
      obtain ⟨hr, hlt3, hs3, hl4, hd4, hf4⟩ := go_on none hp.1
      exact ⟨_, _, hr, .inl ⟨rfl, ⟨hI.put _ hp.2 (by omega) hlt3, by simp; omega, hl4, hd4⟩, hf4⟩⟩
    | ret =>
      obtain ⟨hr, hlt3, hs3, hl4, hd4, hf4⟩ := go_on (some .ret) hp.1
      exact ⟨_, _, hr, .inr ⟨rfl, hIx.put _ hp.2 (by omega) hlt3, by simp; omega, hl4, hd4⟩⟩
    | exit id => exact hp.elim
    | goto t => exact hp.elim
    | panic ch => exact hp.elim
    | outgrown => exact hp.elim
  · rintro e W2 ⟨⟨v, rfl⟩, (⟨hi, hsz, hl, hd⟩ | ⟨pre, hSp, hi, hsz, hl, hd⟩)⟩
    · exact ⟨none, _, run_endLoop (P := P) hl (by simp [rec_]), hdone D _ (Nat.le_refl _) (hI.put _ hi (by omega) (by omega)) ((World.putObj_heap_other (by omega)).trans hd)⟩
    · exact ⟨some .ret, _, run_endLoop (P := P) hl (by simp [rec_]), hstop D pre _ (Nat.le_refl _) hSp (hIx.put _ hi (by omega) (by omega)) ((World.putObj_heap_other (by omega)).trans hd)⟩
end Go.Proofs.YtollcbacpoohlaaGreatDoor
