/- Timers in plain Lean: keys with their ticks, in order. No program in sight. -/
import Derived.Test.YtkkajcakgihckaaBase
namespace Go.Proofs.Ytkkajcakgihckaa

/-- A key and its tick. -/
structure Ke where
  key : Int
  at_ : Int

def Ke.ahead (a b : Ke) : Prop := a.at_ < b.at_ ∨ a.at_ = b.at_ ∧ a.key < b.key
instance (a b : Ke) : Decidable (a.ahead b) := by unfold Ke.ahead; infer_instance

def cancelL (l : List Ke) (key : Int) : List Ke := l.filter fun k => k.key != key
def findL (l : List Ke) (key : Int) : Option Int := (l.find? fun k => k.key == key).map (·.at_)
def insL : List Ke → Ke → List Ke
  | [], x => [x]
  | k :: l, x => if x.ahead k then x :: k :: l else k :: insL l x
def goodK (key at_ : Int) : Bool := decide (0 ≤ key ∧ key ≤ 1000000 ∧ 0 ≤ at_ ∧ at_ ≤ 1000000000000)
def setL (l : List Ke) (key at_ : Int) : List Ke := insL (cancelL l key) ⟨key, at_⟩
def dueL (l : List Ke) (now : Int) : List Ke := l.takeWhile fun k => decide (k.at_ ≤ now)
def leftL (l : List Ke) (now : Int) : List Ke := l.dropWhile fun k => decide (k.at_ ≤ now)

/-- In order, each key once. -/
structure TiOk (l : List Ke) : Prop where
  srt : l.Pairwise Ke.ahead
  one : l.Pairwise fun a b => a.key ≠ b.key
  in_ : ∀ k ∈ l, goodK k.key k.at_ = true

theorem Ke.ahead_or {a b : Ke} (h : a.key ≠ b.key) : a.ahead b ∨ b.ahead a := by unfold Ke.ahead; omega
theorem Ke.ahead_tr {a b c : Ke} (h1 : a.ahead b) (h2 : b.ahead c) : a.ahead c := by unfold Ke.ahead at *; omega
theorem Ke.not_both {a b : Ke} (h1 : a.ahead b) (h2 : b.ahead a) : False := by unfold Ke.ahead at *; omega
theorem Ke.ahead_le {a b : Ke} (h : a.ahead b) : a.at_ ≤ b.at_ := by unfold Ke.ahead at h; omega

theorem mem_cancelL {l : List Ke} {key : Int} {k : Ke} : k ∈ cancelL l key ↔ k ∈ l ∧ k.key ≠ key := by simp [cancelL]
theorem mem_insL {x k : Ke} : ∀ {l : List Ke}, k ∈ insL l x ↔ k = x ∨ k ∈ l
  | [] => by simp [insL]
  | y :: l => by
    unfold insL
    split
    · simp
    · rw [List.mem_cons, mem_insL, List.mem_cons]
      constructor
      · rintro (h | h | h)
        · exact .inr (.inl h)
        · exact .inl h
        · exact .inr (.inr h)
      · rintro (h | h | h)
        · exact .inr (.inl h)
        · exact .inl h
        · exact .inr (.inr h)
theorem insL_length (x : Ke) : ∀ l : List Ke, (insL l x).length = l.length + 1
  | [] => rfl
  | y :: l => by
    unfold insL
    split
    · simp
    · simp [insL_length x l]
theorem insL_perm (x : Ke) : ∀ l : List Ke, (insL l x).Perm (x :: l)
  | [] => .refl _
  | y :: l => by
    unfold insL
    split
    · exact .refl _
    · exact ((insL_perm x l).cons y).trans (.swap _ _ _)

theorem TiOk.nil : TiOk [] := ⟨.nil, .nil, by simp⟩
theorem TiOk.cancel {l : List Ke} (h : TiOk l) (key : Int) : TiOk (cancelL l key) :=
  ⟨h.srt.filter _, h.one.filter _, fun k hk => h.in_ k (mem_cancelL.1 hk).1⟩
theorem TiOk.ins {l : List Ke} (h : TiOk l) {x : Ke} (hx : ∀ k ∈ l, k.key ≠ x.key) (hg : goodK x.key x.at_ = true) : TiOk (insL l x) := by
  refine ⟨?_, ?_, fun k hk => ?_⟩
  · have hs := h.srt
    clear h
    induction l with
    | nil => simp [insL]
    | cons y l ih =>
      rw [List.pairwise_cons] at hs
      unfold insL
      split
      · rename_i hxy
        rw [List.pairwise_cons, List.pairwise_cons]
        refine ⟨fun k hk => ?_, hs⟩
        rcases List.mem_cons.1 hk with rfl | hk
        · exact hxy
        · exact Ke.ahead_tr hxy (hs.1 k hk)
      · rename_i hxy
        rw [List.pairwise_cons]
        refine ⟨fun k hk => ?_, ih (fun k hk => hx k (List.mem_cons_of_mem _ hk)) hs.2⟩
        rcases mem_insL.1 hk with rfl | hk
        · exact (Ke.ahead_or (hx y List.mem_cons_self)).resolve_right hxy
        · exact hs.1 k hk
  · refine ((insL_perm x l).pairwise_iff (fun {a b} h => fun e => h e.symm)).2 ?_
    rw [List.pairwise_cons]
    exact ⟨fun k hk e => hx k hk e.symm, h.one⟩
  · rcases mem_insL.1 hk with rfl | hk
    · exact hg
    · exact h.in_ k hk
theorem TiOk.set {l : List Ke} (h : TiOk l) {key at_ : Int} (hg : goodK key at_ = true) : TiOk (setL l key at_) :=
  (h.cancel key).ins (fun _ hk => (mem_cancelL.1 hk).2) hg
theorem TiOk.left {l : List Ke} (h : TiOk l) (now : Int) : TiOk (leftL l now) :=
  ⟨h.srt.sublist (List.dropWhile_sublist _), h.one.sublist (List.dropWhile_sublist _), fun k hk => h.in_ k ((List.dropWhile_sublist _).subset hk)⟩
theorem due_left (l : List Ke) (now : Int) : dueL l now ++ leftL l now = l := List.takeWhile_append_dropWhile

theorem findL_some {l : List Ke} (h : TiOk l) {key a : Int} : findL l key = some a ↔ ⟨key, a⟩ ∈ l := by
  have ho := h.one
  clear h
  induction l with
  | nil => simp [findL]
  | cons y l ih =>
    rw [List.pairwise_cons] at ho
    unfold findL at ih ⊢
    rw [List.find?_cons]
    by_cases e : y.key = key
    · subst e
      rw [show (y.key == y.key) = true by simp]
      simp only [Option.map_some, Option.some.injEq, List.mem_cons]
      constructor
      · rintro rfl; exact .inl rfl
      · rintro (h | h)
        · rw [← h]
        · exact (ho.1 ⟨y.key, a⟩ h rfl).elim
    · rw [show (y.key == key) = false by simpa using e]
      have ih2 : Option.map (·.at_) (l.find? fun k => k.key == key) = some a ↔ (⟨key, a⟩ : Ke) ∈ l := ih ho.2
      simp only [List.mem_cons]
      rw [ih2]
      constructor
      · exact .inr
      · rintro (h | h)
        · exact absurd (by rw [← h]) e
        · exact h
theorem findL_none {l : List Ke} {key : Int} : findL l key = none ↔ ∀ k ∈ l, k.key ≠ key := by
  simp [findL]

/-- What is due is at most now; what is left is later. -/
theorem mem_dueL {l : List Ke} (h : TiOk l) {now : Int} {k : Ke} : k ∈ dueL l now ↔ k ∈ l ∧ k.at_ ≤ now := by
  have hs := h.srt
  clear h
  induction l with
  | nil => simp [dueL]
  | cons y l ih =>
    rw [List.pairwise_cons] at hs
    unfold dueL at ih ⊢
    rw [List.takeWhile_cons]
    by_cases e : y.at_ ≤ now
    · have ih2 : k ∈ l.takeWhile (fun k => decide (k.at_ ≤ now)) ↔ k ∈ l ∧ k.at_ ≤ now := ih hs.2
      rw [if_pos (by simpa using e), List.mem_cons, ih2, List.mem_cons]
      constructor
      · rintro (rfl | ⟨h1, h2⟩)
        · exact ⟨.inl rfl, e⟩
        · exact ⟨.inr h1, h2⟩
      · rintro ⟨rfl | h1, h2⟩
        · exact .inl rfl
        · exact .inr ⟨h1, h2⟩
    · rw [if_neg (by simpa using e)]
      simp only [List.not_mem_nil, false_iff, not_and, List.mem_cons]
      rintro (rfl | h1) h2
      · exact e h2
      · have := Ke.ahead_le (hs.1 k h1); omega
theorem mem_leftL {l : List Ke} (h : TiOk l) {now : Int} {k : Ke} : k ∈ leftL l now ↔ k ∈ l ∧ now < k.at_ := by
  have hs := h.srt
  clear h
  induction l with
  | nil => simp [leftL]
  | cons y l ih =>
    rw [List.pairwise_cons] at hs
    unfold leftL at ih ⊢
    rw [List.dropWhile_cons]
    by_cases e : y.at_ ≤ now
    · have ih2 : k ∈ l.dropWhile (fun k => decide (k.at_ ≤ now)) ↔ k ∈ l ∧ now < k.at_ := ih hs.2
      rw [if_pos (by simpa using e), ih2, List.mem_cons]
      constructor
      · rintro ⟨h1, h2⟩; exact ⟨.inr h1, h2⟩
      · rintro ⟨rfl | h1, h2⟩
        · omega
        · exact ⟨h1, h2⟩
    · rw [if_neg (by simpa using e), List.mem_cons]
      constructor
      · rintro (rfl | h1)
        · exact ⟨.inl rfl, by omega⟩
        · have := Ke.ahead_le (hs.1 k h1); exact ⟨.inr h1, by omega⟩
      · rintro ⟨h1, _⟩; exact h1

/-- Two orders of the same keys are one. -/
theorem srt_uniq : ∀ {l m : List Ke}, l.Pairwise Ke.ahead → m.Pairwise Ke.ahead → l.Perm m → l = m
  | [], m, _, _, hp => (List.perm_nil.1 hp.symm).symm ▸ rfl
  | x :: l, [], _, _, hp => absurd (List.perm_nil.1 hp) (by simp)
  | x :: l, y :: m, h1, h2, hp => by
    rw [List.pairwise_cons] at h1 h2
    have hx : x ∈ y :: m := hp.subset List.mem_cons_self
    have hy : y ∈ x :: l := hp.symm.subset List.mem_cons_self
    have e : x = y := by
      rcases List.mem_cons.1 hx with e | hx
      · exact e
      · rcases List.mem_cons.1 hy with e | hy
        · exact e.symm
        · exact (Ke.not_both (h2.1 x hx) (h1.1 y hy)).elim
    subst e
    rw [srt_uniq h1.2 h2.2 hp.cons_inv]

theorem cancelL_none {l : List Ke} {key : Int} (h : findL l key = none) : cancelL l key = l := by
  unfold cancelL
  rw [List.filter_eq_self]
  intro k hk
  simpa using findL_none.1 h k hk
theorem cancelL_length {l : List Ke} (h : TiOk l) {key : Int} (hf : findL l key ≠ none) : (cancelL l key).length + 1 = l.length := by
  have ho := h.one
  clear h
  induction l with
  | nil => simp [findL] at hf
  | cons y l ih =>
    rw [List.pairwise_cons] at ho
    unfold cancelL at ih ⊢
    rw [List.filter_cons]
    by_cases e : y.key = key
    · subst e
      rw [if_neg (by simp), List.length_cons]
      rw [List.filter_eq_self.2 (fun k hk => by simpa using fun e => ho.1 k hk e.symm)]
    · rw [if_pos (by simpa using e), List.length_cons, List.length_cons]
      have hf2 : findL l key ≠ none := by
        unfold findL at hf ⊢
        rwa [List.find?_cons, show (y.key == key) = false by simpa using e] at hf
      rw [ih hf2 ho.2]
theorem setL_length {l : List Ke} (h : TiOk l) (key at_ : Int) : (setL l key at_).length = if findL l key = none then l.length + 1 else l.length := by
  unfold setL
  rw [insL_length]
  split
  · rename_i hf; rw [cancelL_none hf]
  · rename_i hf; exact cancelL_length h hf
theorem mem_setL {l : List Ke} {key at_ : Int} {k : Ke} : k ∈ setL l key at_ ↔ k = ⟨key, at_⟩ ∨ (k ∈ l ∧ k.key ≠ key) := by
  unfold setL; rw [mem_insL, mem_cancelL]

/-- Set: its answer, and what is behind it. -/
def setA (l : List Ke) (key at_ : Int) : Int × List Ke :=
  if goodK key at_ = true then (if findL l key = none ∧ 64 ≤ l.length then (92, l) else (0, setL l key at_)) else (2, l)
structure TiGood (l : List Ke) : Prop where
  ok : TiOk l
  le : l.length ≤ 64
theorem TiGood.nil : TiGood [] := ⟨TiOk.nil, by simp⟩
theorem TiGood.set {l : List Ke} (h : TiGood l) (key at_ : Int) : TiGood (setA l key at_).2 := by
  unfold setA
  split
  · rename_i hg
    split
    · exact h
    · rename_i hf
      refine ⟨h.ok.set hg, ?_⟩
      have hl := setL_length h.ok key at_
      have := h.le
      dsimp only
      by_cases e : findL l key = none
      · rw [if_pos e] at hl; have : ¬ 64 ≤ l.length := fun h2 => hf ⟨e, h2⟩; omega
      · rw [if_neg e] at hl; omega
  · exact h
theorem TiGood.cancel {l : List Ke} (h : TiGood l) (key : Int) : TiGood (cancelL l key) :=
  ⟨h.ok.cancel key, Nat.le_trans (List.length_filter_le _ _) h.le⟩
theorem TiGood.left {l : List Ke} (h : TiGood l) (now : Int) : TiGood (leftL l now) :=
  ⟨h.ok.left now, Nat.le_trans (List.dropWhile_sublist _).length_le h.le⟩

/-- A key has the tick that it was set to last; others keep theirs. -/
theorem find_set {l : List Ke} (h : TiOk l) {key at_ : Int} (hg : goodK key at_ = true) : findL (setL l key at_) key = some at_ :=
  (findL_some (h.set hg)).2 (mem_setL.2 (.inl rfl))
theorem find_set_other {l : List Ke} (h : TiOk l) {key at_ other : Int} (hg : goodK key at_ = true) (ho : other ≠ key) : findL (setL l key at_) other = findL l other := by
  cases hf : findL l other with
  | some a => exact (findL_some (h.set hg)).2 (mem_setL.2 (.inr ⟨(findL_some h).1 hf, ho⟩))
  | none =>
    refine findL_none.2 fun k hk => ?_
    rcases mem_setL.1 hk with rfl | ⟨hk, _⟩
    · exact fun e => ho e.symm
    · exact findL_none.1 hf k hk
theorem find_cancel {l : List Ke} (key : Int) : findL (cancelL l key) key = none := findL_none.2 fun _ hk => (mem_cancelL.1 hk).2
/-- Behind what is due nothing is due. -/
theorem due_again {l : List Ke} (h : TiOk l) (now : Int) : dueL (leftL l now) now = [] := by
  rw [List.eq_nil_iff_forall_not_mem]
  intro k hk
  have := (mem_dueL (h.left now)).1 hk
  have h2 := (mem_leftL h).1 this.1
  omega
/-- At the last tick all are due. -/
theorem due_all {l : List Ke} (h : TiOk l) : dueL l 1000000000000 = l ∧ leftL l 1000000000000 = [] := by
  have hall : ∀ k ∈ l, k.at_ ≤ 1000000000000 := fun k hk => by have := h.in_ k hk; simp [goodK] at this; omega
  have hn : leftL l 1000000000000 = [] := by
    rw [List.eq_nil_iff_forall_not_mem]
    intro k hk
    have h2 := (mem_leftL h).1 hk
    have := hall k h2.1
    omega
  refine ⟨?_, hn⟩
  have := due_left l 1000000000000
  rw [hn, List.append_nil] at this
  exact this

def keysL (l : List Ke) : List Int := l.map (·.key)
theorem keysL_append (a b : List Ke) : keysL (a ++ b) = keysL a ++ keysL b := List.map_append
theorem due_keys (l : List Ke) (now : Int) : keysL (dueL l now) ++ keysL (leftL l now) = keysL l := by rw [← keysL_append, due_left]
/-- A key is due just if it is there with a tick at most now. -/
theorem mem_due_key {l : List Ke} (h : TiOk l) {now key : Int} : key ∈ keysL (dueL l now) ↔ ∃ a, findL l key = some a ∧ a ≤ now := by
  unfold keysL
  rw [List.mem_map]
  constructor
  · rintro ⟨k, hk, rfl⟩
    obtain ⟨h1, h2⟩ := (mem_dueL h).1 hk
    exact ⟨k.at_, (findL_some h).2 h1, h2⟩
  · rintro ⟨a, ha, h2⟩
    exact ⟨⟨key, a⟩, (mem_dueL h).2 ⟨(findL_some h).1 ha, h2⟩, rfl⟩
/-- Keys stand once. -/
theorem keysL_nodup {l : List Ke} (h : TiOk l) : (keysL l).Nodup := by
  unfold keysL List.Nodup
  rw [List.pairwise_map]
  exact h.one
theorem due_nodup {l : List Ke} (h : TiOk l) (now : Int) : (keysL (dueL l now)).Nodup := by
  have := keysL_nodup h
  rw [← due_keys l now, List.nodup_append] at this
  exact this.1
/-- The first that is left is later. -/
theorem left_first {l : List Ke} (h : TiOk l) {now : Int} {k : Ke} {m : List Ke} (hl : leftL l now = k :: m) : now < k.at_ :=
  ((mem_leftL h).1 (hl ▸ List.mem_cons_self)).2
/-- A key that is set is due at its tick, and not one ahead of it. -/
theorem moves_early {l : List Ke} (h : TiOk l) {key at_ : Int} (hg : goodK key at_ = true) : key ∉ keysL (dueL (setL l key at_) (at_ - 1)) := fun hm => by
  obtain ⟨a, ha, h2⟩ := (mem_due_key (h.set hg)).1 hm
  rw [find_set h hg] at ha
  have := Option.some.inj ha
  omega
theorem moves_due {l : List Ke} (h : TiOk l) {key at_ : Int} (hg : goodK key at_ = true) : key ∈ keysL (dueL (leftL (setL l key at_) (at_ - 1)) at_) := by
  have h1 := h.set hg
  refine (mem_due_key (h1.left _)).2 ⟨at_, (findL_some (h1.left _)).2 ((mem_leftL h1).2 ⟨(findL_some h1).1 (find_set h hg), ?_⟩), Int.le_refl _⟩
  show at_ - 1 < at_
  omega
theorem moves_left {l : List Ke} (h : TiOk l) {key at_ : Int} (hg : goodK key at_ = true) : findL (leftL (leftL (setL l key at_) (at_ - 1)) at_) key = none := by
  have h1 := h.set hg
  refine findL_none.2 fun k hk e => ?_
  obtain ⟨h2, h3⟩ := (mem_leftL (h1.left _)).1 hk
  obtain ⟨h4, _⟩ := (mem_leftL h1).1 h2
  have h5 : findL (setL l key at_) k.key = some k.at_ := (findL_some h1).2 h4
  rw [e, find_set h hg] at h5
  have := Option.some.inj h5
  omega
/-- Each key's tick; each stands behind the one ahead of it. -/
theorem order_at {l : List Ke} (h : TiOk l) {i : Nat} {k : Ke} (hk : l[i]? = some k) : findL l k.key = some k.at_ ∧ 0 ≤ k.at_ := by
  have hm : k ∈ l := List.mem_of_getElem? hk
  have := h.in_ k hm
  simp only [goodK, decide_eq_true_eq] at this
  exact ⟨(findL_some h).2 hm, this.2.2.1⟩
theorem order_next {l : List Ke} (h : TiOk l) {i : Nat} {a b : Ke} (ha : l[i]? = some a) (hb : l[i + 1]? = some b) : a.at_ ≤ b.at_ ∧ (a.at_ = b.at_ → a.key < b.key) := by
  obtain ⟨h1, rfl⟩ := List.getElem?_eq_some_iff.1 ha
  obtain ⟨h2, rfl⟩ := List.getElem?_eq_some_iff.1 hb
  have := List.pairwise_iff_getElem.1 h.srt i (i + 1) h1 h2 (by omega)
  unfold Ke.ahead at this
  omega
/-- The answers to a cancelling: was it there? -/
theorem cancel_was {l : List Ke} (h : TiOk l) (key : Int) : decide ((cancelL l key).length < l.length) = (findL l key).isSome := by
  cases hf : findL l key with
  | none => rw [cancelL_none hf]; simp
  | some a =>
    have := cancelL_length h (key := key) (by rw [hf]; simp)
    simp; omega
end Go.Proofs.Ytkkajcakgihckaa
