/- A timer's map of entries in memory. -/
import Derived.Test.YtkkajcakgihckaaTimE
import Derived.Maps.OwnIn
import Derived.Maps.OwnSet
import Derived.Maps.Views
namespace Go.Proofs.Ytkkajcakgihckaa
open Go.RowKit

/-- How an entry's pointer is read out of the map: by its block. -/
def rdE : Value → Option (DataW Unit × List MemPlace)
  | .pointer (some ⟨b, 0, none⟩) => some (.lit (.int .i64 b), [])
  | .pointer none => some (.lit (.int .i64 (-1)), [])
  | _ => none
def ptrO : Option Nat → Value
  | some b => .pointer (some ⟨b, 0, none⟩)
  | none => .pointer none
def datO : Option Nat → DataW Unit
  | some b => .lit (.int .i64 b)
  | none => .lit (.int .i64 (-1))
theorem rdE_ptr (o : Option Nat) : rdE (ptrO o) = some (datO o, []) := by cases o <;> rfl
theorem rdE_inj {v : Value} {ps : List MemPlace} {o : Option Nat} (h : rdE v = some (datO o, ps)) : v = ptrO o := by
  unfold rdE at h
  split at h
  · rename_i b
    injection h with h
    injection h with h _
    cases o with
    | none => simp only [datO] at h; injection h with h; injection h with _ h; omega
    | some c =>
      simp only [datO] at h
      injection h with h
      injection h with _ h
      have : b = c := by omega
      subst this
      rfl
  · injection h with h
    injection h with h _
    cases o with
    | none => rfl
    | some c => simp only [datO] at h; injection h with h; injection h with _ h; omega
  · cases h

/-- At block m lies a map that sends each key to its entry's block. -/
def MpAt (W : World) (m n : Nat) (φ : Int → Option Nat) : Prop :=
  ∃ D : DataW Unit, W.ownsMap Try.prog 3 rdE m n D ∧ Maps.IsMap D ∧
    ∀ key : Int, Maps.has D (.int .i64 key) = (φ key).isSome ∧ D.atKey (.int .i64 key) (datO none) = datO (φ key)

theorem keyed_int : Maps.Keyed Try.prog 3 := Maps.int_keyed Try.underlying3
theorem zero_pE (W : World) : (zeroValue 60).run Try.prog W = .ok (.pointer none) W := by kernel_rfl
theorem MpAt.lt {W : World} {m n : Nat} {φ : Int → Option Nat} (h : MpAt W m n φ) : m < W.heap.size := by obtain ⟨D, h1, _⟩ := h; exact h1.lt
theorem MpAt.same {W W' : World} {m n : Nat} {φ : Int → Option Nat} (h : MpAt W m n φ) (hb : W'.heap[m]? = W.heap[m]?) : MpAt W' m n φ := by
  obtain ⟨D, ⟨es, clock, h1, h2, h3, h4⟩, hm, hs⟩ := h
  exact ⟨D, ⟨es, clock, hb.trans h1, h2, h3, h4⟩, hm, hs⟩
theorem MpAt.keeps {W W' : World} {S : List Nat} {m n : Nat} {φ : Int → Option Nat} (h : MpAt W m n φ) (hk : Keeps S W W') (hn : m ∉ S) : MpAt W' m n φ := h.same (hk.block m h.lt hn)
theorem MpAt.isMap {W : World} {m n : Nat} {φ : Int → Option Nat} (h : MpAt W m n φ) : ∃ es c, W.heap[m]? = some (.map es c) := by
  obtain ⟨D, ⟨es, clock, h1, _⟩, _⟩ := h
  exact ⟨es, clock, h1⟩
theorem MpAt.mono {W : World} {m n n' : Nat} {φ : Int → Option Nat} (h : MpAt W m n φ) (hn : n ≤ n') : MpAt W m n' φ := by
  obtain ⟨D, h1, h2⟩ := h
  exact ⟨D, h1.mono hn, h2⟩
theorem MpAt.ext {W : World} {m n : Nat} {φ ψ : Int → Option Nat} (h : MpAt W m n φ) (he : ∀ k, ψ k = φ k) : MpAt W m n ψ := by
  obtain rfl : ψ = φ := funext he
  exact h
theorem MpAt.look {W : World} {m n : Nat} {φ : Int → Option Nat} (h : MpAt W m n φ) (key : Int) (hw : (Lit.int .i64 key).wf = true) :
    (Instr.lookup 51 (.map (some m)) (.int .i64 key) true).run Try.prog W = .ok (.tuple #[ptrO (φ key), .bool (φ key).isSome]) W := by
  obtain ⟨D, h1, _, h2⟩ := h
  obtain ⟨v, ps, hrun, hv⟩ := h1.look_ok (t := 51) (e := 60) keyed_int Try.underlying51 (zero_pE W) (rdE_ptr none) (Maps.keyOf_int_mk Try.underlying3 hw)
  rw [(h2 key).2] at hv
  rw [hrun, (h2 key).1, rdE_inj hv]
theorem MpAt.store {W : World} {m n : Nat} {φ : Int → Option Nat} (h : MpAt W m n φ) (key : Int) (b : Nat) (hw : (Lit.int .i64 key).wf = true) (hn : n < 1000) :
    ∃ W', (Instr.mapUpdate 51 (.map (some m)) (.int .i64 key) (.pointer (some ⟨b, 0, none⟩))).run Try.prog W = .ok () W' ∧ MpAt W' m (n + 1) (fun k => if k = key then some b else φ k) ∧ W.grownBy W' (some m) := by
  obtain ⟨D, h1, hm, h2⟩ := h
  obtain ⟨W', hrun, hown, hgr⟩ := h1.update (t := 51) (e := 60) keyed_int Try.underlying51 (by unfold maxLen; omega) (Maps.keyOf_int_mk Try.underlying3 hw) (rdE_ptr (some b))
  refine ⟨W', hrun, ⟨_, hown, hm.put _ _, fun k => ?_⟩, hgr⟩
  by_cases hst : k = key
  · subst hst
    dsimp only
    rw [if_pos rfl]
    exact ⟨Maps.has_put_same hm (k := .int .i64 _) trivial _, Maps.atKey_put_same hm (k := .int .i64 _) trivial _ _⟩
  · have hk : (Lit.int .i64 k) ≠ .int .i64 key := by
      intro e; injection e with _ e; exact hst e
    dsimp only
    rw [if_neg hst]
    exact ⟨(Maps.has_put_other hk _).trans (h2 k).1, (Maps.atKey_put_other hk _ _).trans (h2 k).2⟩
theorem grown_of_turned {W W' : World} {m : Nat} (h : W.mapTurned W' m) : W.grownBy W' (some m) := by
  obtain ⟨es, clock, es', clock', hb, rfl⟩ := h
  exact ⟨rfl, rfl, rfl, by simp [ChangeMaps.setBlock], fun i _ hi => ChangeMaps.heap_setBlock_other hb _ (fun e => hi (by rw [e]))⟩
theorem MpAt.drop {W : World} {m n : Nat} {φ : Int → Option Nat} (h : MpAt W m n φ) (key : Int) (hw : (Lit.int .i64 key).wf = true) (ty : TypeId) :
    ∃ W', (Builtin.delete_ #[51, 3] ty #[.map (some m), .int .i64 key]).run Try.prog W = .ok (.tuple #[]) W' ∧ MpAt W' m n (fun k => if k = key then none else φ k) ∧ W.grownBy W' (some m) := by
  obtain ⟨D, h1, hm, h2⟩ := h
  obtain ⟨W', hrun, hown, hgr⟩ := h1.drop (t := 51) (e := 60) keyed_int Try.underlying51 (Maps.keyOf_int_mk Try.underlying3 hw) ty
  refine ⟨W', hrun, ⟨_, hown, hm.del _, fun k => ?_⟩, grown_of_turned hgr⟩
  by_cases hst : k = key
  · subst hst
    dsimp only
    rw [if_pos rfl]
    exact ⟨Maps.has_del_same, Maps.atKey_del_same _⟩
  · have hk : (Lit.int .i64 k) ≠ .int .i64 key := by
      intro e; injection e with _ e; exact hst e
    dsimp only
    rw [if_neg hst]
    exact ⟨(Maps.has_del_other hk).trans (h2 k).1, (Maps.atKey_del_other hk _).trans (h2 k).2⟩
theorem MpAt.new (W : World) : MpAt (W.alloc (.map #[] 0)) W.heap.size 0 (fun _ => none) :=
  ⟨.map [], World.ownsMap_made W _ _ _, Maps.isMap_empty, fun _ => ⟨rfl, rfl⟩⟩
end Go.Proofs.Ytkkajcakgihckaa
