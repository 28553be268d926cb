/- A range over an iterator that writes cells of its own between the rounds: the caller's words speak of what lay before the call alone. No program in sight. -/
import Derived.Test.YtollcbacpoohlaaGreatDoorIter
namespace Go.Proofs.YtollcbacpoohlaaGreatDoor
open Go.RowKit Go.Shelf

/-- Whatever lies from block B on lies as it lay. -/
def FarK (B : Nat) (W W' : World) : Prop := W.heap.size ≤ W'.heap.size ∧ ∀ k, B ≤ k → k < W.heap.size → W'.heap[k]? = W.heap[k]?
theorem FarK.refl (B : Nat) (W : World) : FarK B W W := ⟨Nat.le_refl _, fun _ _ _ => rfl⟩
theorem FarK.trans {B : Nat} {X Y Z : World} (h : FarK B X Y) (k : FarK B Y Z) : FarK B X Z :=
  ⟨Nat.le_trans h.1 k.1, fun i hi hl => (k.2 i hi (Nat.lt_of_lt_of_le hl h.1)).trans (h.2 i hi hl)⟩
theorem FarK.mono {B C : Nat} {X Y : World} (h : FarK B X Y) (hc : B ≤ C) : FarK C X Y := ⟨h.1, fun i hi hl => h.2 i (Nat.le_trans hc hi) hl⟩
theorem FarK.putObj {B l : Nat} (hl : l < B) (W : World) (o : Obj) : FarK B W (W.putObj l o) := ⟨by simp, fun k hk _ => World.putObj_heap_other (by omega)⟩
theorem FarK.setCell {B : Nat} {p : Addr} (hp : p.block < B) (W : World) (v : Value) : FarK B W (W.setCell p v) := ⟨by simp [World.setCell], fun k hk _ => Below.heap_setCell W p v k (by omega)⟩
theorem FarK.drewN {B : Nat} {X Y : World} (h : FarK B X Y) (n : Nat) : FarK B X (Y.drewN n) := h

/-- A word that speaks of what lies below B alone. -/
def Low {β : Type} (B : Nat) (J : β → World → Prop) : Prop := ∀ s A A', J s A → Below B A A' → J s A'

theorem Low.put {β : Type} {B : Nat} {J : β → World → Prop} (h : Low B J) {s : β} {W : World} {l : Nat} (o' : Obj) (hs : J s W) (hB : B ≤ l) (hl : l < W.heap.size) : J s (W.putObj l o') :=
  h s W _ hs ((Below.refl B W).grown (grownBy_putObj' W l o') (by omega) (fun k e => by cases e; omega))

/-- The contract of an iterator. -/
def SeqB {α : Type} (F : Fence) (n : Nat) (P : Program) (g : Nat) (lb : Array Value) (encs : α → Array Value) (S Sp : List α → Prop) (N : Nat) (w0 : World) : Prop :=
  ∀ (l : Nat) (J Jx : List α → World → Prop) (W : World), Below w0.heap.size w0 W → Low W.heap.size J → Low W.heap.size Jx →
    (∀ pre x W1, J pre W1 → pre.length < N → YieldAt F (n - 1) P l (encs x) W1 fun e W' =>
      (e = .returned (.bool true) ∧ J (pre ++ [x]) W' ∧ FarK W.heap.size W1 W') ∨ (e = .returned (.bool false) ∧ Jx (pre ++ [x]) W')) →
    J [] W →
    CallsIn F n P g (#[.func (.yield l) #[] #[]] ++ lb) W fun e W' => (∃ v, e = .returned v) ∧ ((∃ xs, S xs ∧ J xs W') ∨ (∃ pre, Sp pre ∧ Jx pre W'))

/-- How a round's body may end. -/
def roundB {α : Type} (B : Nat) (I Ix : List α → World → Prop) (xs : List α) (W : World) : Exit → Act → World → Prop
  | .normal, _, W' => FarK B W W' ∧ I xs W'
  | .ret, _, W' => FarK B W W' ∧ Ix xs W'
  | _, _, _ => False

variable {F : Fence} {n : Nat} {P : Program}

theorem wpIn_rangeB {α : Type} {g : Operand} {ps : Array Tmp} {assign body : Code} {Q : Exit → Act → World → Prop} {a : Act} {w : World}
    (hro : F.round = none) (h1 : 1 ≤ n) {gf : Nat} {lb : Array Value} (hg : a.eval g = .func (.func gf) #[] lb) (hFg : F.fn gf) (eg : ∀ args w, (callFunc gf args).run P w = .ok (.enter gf args) w)
    {encs : α → Array Value} {S Sp : List α → Prop} {N : Nat} {w0 : World} (hseq : SeqB F (n - 1) P gf lb encs S Sp N w0) (hb0 : Below w0.heap.size w0 w) (hps : ∀ x, (encs x).size = ps.size)
    (I Ix : List α → World → Prop) (hI : Low w.heap.size I) (hIx : Low w.heap.size Ix) (h0 : I [] w) (a₁ : α → Act)
    (hassign : ∀ (l : Nat) (x : α) (W : World) (K : Act → World → Prop), K (a₁ x) W →
      assign.wpIn (F.inRound l) (n - 1 - 1) P (Exit.then K (fun _ _ _ => False)) { tmps := (ps.zip (encs x)).foldl (fun t (p, v) => t.setIfInBounds p v) a.tmps, defers := [] } W)
    (hbody : ∀ (l : Nat) (pre : List α) (x : α) (W : World), I pre W → pre.length < N → w.heap.size ≤ W.heap.size → body.wpIn (F.inRound l) (n - 1 - 1) P (roundB w.heap.size I Ix (pre ++ [x]) W) (a₁ x) W)
    (hdone : ∀ (D : Nat) (xs : List α) (W : World), w.heap.size ≤ D → S xs → I xs W → W.heap[D]? = some (.deferred (some [])) → Q .normal { a with defers := { target := .collected D, args := #[] } :: a.defers } W)
    (hstop : ∀ (D : Nat) (pre : List α) (W : World), w.heap.size ≤ D → Sp pre → Ix pre W → W.heap[D]? = some (.deferred (some [])) → Code.ret.wpIn F n P Q { a with defers := { target := .collected D, args := #[] } :: a.defers } W) :
    (Code.rangeFunc g ps assign body).wpIn F n P Q a w := by
  refine wpIn_rangeFunc fun fn hfn => ?_
  rw [hro]
  let D := w.heap.size
  let l := w.heap.size + 1
  let rec_ : LoopState → Option Code → Loop := fun st pe => { state := st, pending := pe, fn, tmps := a.tmps, params := ps, assign, body, defers := D }
  let W1 := (w.alloc (.deferred (some []))).alloc (.loop (rec_ .ready none))
  have hs1 : W1.heap.size = w.heap.size + 2 := by simp [W1]
  have hL : W1.heap[l]? = some (.loop (rec_ .ready none)) := by
    have := World.alloc_heap_new (w.alloc (.deferred (some []))) (.loop (rec_ .ready none))
    rwa [World.size_alloc] at this
  have hD : W1.heap[D]? = some (.deferred (some [])) := (Below.heap_alloc _ _ _ (by simp [D])).trans (World.alloc_heap_new w _)
  have hb1 : Below w.heap.size w W1 := ((Below.refl _ w).alloc (Nat.le_refl _) _).alloc (by simp) _
  refine ⟨l, [{ target := .collected D, args := #[] }], W1, { target := .fn (.func gf) lb, args := #[.func (.yield l) #[] #[]] }, W1, gf, #[.func (.yield l) #[] #[]] ++ lb, W1, run_enterLoop_outer _ _ _ _ _, ?_, ?_, ?_, fun _ => h1, ?_⟩
  · simp only [resolve, hg]; simp [go_sem]
  · intro f' hf'; simp [Target.leads] at hf'; subst hf'; exact hFg
  · simp [invoke, go_sem, eg]
  have hle : w.heap.size ≤ W1.heap.size := by omega
  refine (hseq l
    (fun pre W => I pre W ∧ W1.heap.size ≤ W.heap.size ∧ W.heap[l]? = some (.loop (rec_ .ready none)) ∧ W.heap[D]? = some (.deferred (some [])))
    (fun pre W => Ix pre W ∧ W1.heap.size ≤ W.heap.size ∧ W.heap[l]? = some (.loop (rec_ .done (some .ret))) ∧ W.heap[D]? = some (.deferred (some [])))
    W1 (hb0.trans (hb1.mono hb0.size))
    (fun s A A' hs hB => ⟨hI s A A' hs.1 (hB.mono hle), Nat.le_trans hs.2.1 hB.size, (hB.block l (by omega)).trans hs.2.2.1, (hB.block D (by omega)).trans hs.2.2.2⟩)
    (fun s A A' hs hB => ⟨hIx s A A' hs.1 (hB.mono hle), Nat.le_trans hs.2.1 hB.size, (hB.block l (by omega)).trans hs.2.2.1, (hB.block D (by omega)).trans hs.2.2.2⟩)
    ?_ ⟨hI _ _ _ h0 hb1, Nat.le_refl _, hL, hD⟩).mono ?_
  · rintro pre x W ⟨hi, hsz, hl, hd⟩ hlen
    have hlt : l < W.heap.size := by omega
    refine ⟨fn, _, assign, body, run_yield (P := P) (args := encs x) hl (hps x), roundIn_of_wpIn hfn (hassign _ x W _ ⟨_, run_beginRound hl rfl, ?_⟩)⟩
    have hl2 : (W.putObj l (.loop { rec_ .ready none with state := .busy })).heap[l]? = some (.loop { rec_ .ready none with state := .busy }) := World.putObj_heap_same hlt
    have hd2 : (W.putObj l (.loop { rec_ .ready none with state := .busy })).heap[D]? = some (.deferred (some [])) := (World.putObj_heap_other (by omega)).trans hd
    have hf2 : FarK W1.heap.size W (W.putObj l (.loop { rec_ .ready none with state := .busy })) := FarK.putObj (by omega) _ _
    refine wpIn_mono (hbody _ pre x _ (hI.put _ hi (by omega) hlt) hlen (by simp; omega)) ?_
    rintro e a3 W3 hp
    have go_on : ∀ (jump : Option Code), FarK w.heap.size (W.putObj l (.loop { rec_ .ready none with state := .busy })) W3 →
        (Instr.endRound l jump).run P W3 = .ok (.bool jump.isNone) (W3.putObj l (.loop (rec_ (if jump.isNone then .ready else .done) jump))) ∧ l < W3.heap.size ∧ W1.heap.size ≤ W3.heap.size ∧
        (W3.putObj l (.loop (rec_ (if jump.isNone then .ready else .done) jump))).heap[l]? = some (.loop (rec_ (if jump.isNone then .ready else .done) jump)) ∧
        (W3.putObj l (.loop (rec_ (if jump.isNone then .ready else .done) jump))).heap[D]? = some (.deferred (some [])) ∧
        FarK W1.heap.size W (W3.putObj l (.loop (rec_ (if jump.isNone then .ready else .done) jump))) := fun jump hk => by
      have hk1 := hk.1
      rw [World.putObj_size] at hk1
      have hl3 : W3.heap[l]? = some (.loop { rec_ .ready none with state := .busy }) := (hk.2 l (by omega) (by simp; omega)).trans hl2
      have hd3 : W3.heap[D]? = some (.deferred (some [])) := (hk.2 D (by omega) (by simp; omega)).trans hd2
      exact ⟨run_endRound (P := P) jump hl3, by omega, by omega, World.putObj_heap_same (by omega), (World.putObj_heap_other (by omega)).trans hd3, (hf2.trans (hk.mono hle)).trans (FarK.putObj (by omega) _ _)⟩
    cases e with
    | normal =>
      obtain ⟨hr, hlt3, hs3, hl4, hd4, hf4⟩ := go_on none hp.1
      exact ⟨_, _, hr, .inl ⟨rfl, ⟨hI.put _ hp.2 (by omega) hlt3, by simp; omega, hl4, hd4⟩, hf4⟩⟩
    | ret =>
      obtain ⟨hr, hlt3, hs3, hl4, hd4, hf4⟩ := go_on (some .ret) hp.1
      exact ⟨_, _, hr, .inr ⟨rfl, hIx.put _ hp.2 (by omega) hlt3, by simp; omega, hl4, hd4⟩⟩
    | exit id => exact hp.elim
    | goto t => exact hp.elim
    | panic ch => exact hp.elim
    | outgrown => exact hp.elim
  · rintro e W2 ⟨⟨v, rfl⟩, (⟨xs, hS, hi, hsz, hl, hd⟩ | ⟨pre, hSp, hi, hsz, hl, hd⟩)⟩
    · exact ⟨none, _, run_endLoop (P := P) hl (by simp [rec_]), hdone D xs _ (Nat.le_refl _) hS (hI.put _ hi (by omega) (by omega)) ((World.putObj_heap_other (by omega)).trans hd)⟩
    · exact ⟨some .ret, _, run_endLoop (P := P) hl (by simp [rec_]), hstop D pre _ (Nat.le_refl _) hSp (hIx.put _ hi (by omega) (by omega)) ((World.putObj_heap_other (by omega)).trans hd)⟩

/-- An append whose run is known. -/
theorem wpListIn_append_run {F : Fence} {nF : Nat} {P : Program} (w : World) {ops : Array Oper} {rest : List Oper} {o : Oper} {a : Act} {Q : Exit → Act → World → Prop} (hgd : o.guard = none) (s x : Operand) (t : TypeId)
    (ho : o.op = .call { callee := .builtin .append, args := #[s, x], argTypes := #[t, t] }) {v u v' : Value} {w' : World} (hs : a.eval s = v) (hx : a.eval x = u)
    (hr : (Builtin.append_ #[t, t] o.type #[v, u]).run P w = .ok v' w') (h : wpListIn F nF P ops Q rest (a.put o.dst v') w') : wpListIn F nF P ops Q (o :: rest) a w := by
  refine wpListIn_plain hgd fun K hK => ?_
  unfold Oper.wpIn
  refine ⟨by simp [Oper.about, ho, resolve, Target.leads, Sem.run_pure], ?_⟩
  rw [Oper.semAt_plain F _ _ (by rw [ho]; intro c hc'; cases hc')]
  simp [execOp, ho, resolve, invoke, builtin, hs, hx, hr, Result.andThen]
  exact hK _ _ h
end Go.Proofs.YtollcbacpoohlaaGreatDoor
