/- Appends of lists of numbers, for TimerDue. -/
import Derived.Test.YtkkajcakgihckaaTlA
import Derived.Laws.OwnMore
namespace Go.Proofs.Ytkkajcakgihckaa
open Go.RowKit Go.Shelf

set_option maxRecDepth 100000 in
theorem app_ints {w : World} {base b2 : Nat} {u v : Value} {xs ys : List Int} (hu : NewI w base u xs) (hv : NewI w b2 v ys) (hb : base ≤ w.heap.size) (hl : xs.length + ys.length ≤ 1000) (ty : TypeId) :
    ∃ u' w', (Builtin.append_ #[32, 32] ty #[u, v]).run Try.prog w = .ok u' w' ∧ NewI w' base u' (xs ++ ys) ∧ w.grownBy w' u.ownBlock := by
  obtain ⟨i0, hi, hz0, hz1, hz2⟩ := info_parts tint_info10
  rcases hv.2 with ⟨rfl, h0⟩ | ⟨g, cap, cur, rfl, hb', hg, hn, _, hs, ht⟩
  · obtain rfl : ys = [] := List.eq_nil_of_length_eq_zero h0
    refine ⟨u, w, run_append_owned_none (P := Try.prog) w base 32 ty 3 i0 1 Try.underlying32 hi u _ _ hu, by rw [List.append_nil]; exact hu, ⟨rfl, rfl, rfl, Nat.le_refl _, fun _ _ _ => rfl⟩⟩
  · obtain ⟨u', w', h1, h2, h3, _⟩ := run_append_own (P := Try.prog) w base 32 ty 3 i0 (.int .i64 0) 1 8 Try.underlying32 hi hz0 hz1 hz2 rfl (by decide) u _ _ hu ⟨g, 0, none⟩ ys.length cap (ys.map (Value.int .i64)) (by simp) (fun j z hj => by
      have : (⟨g, 0, none⟩ : Addr).add j = ⟨g, j, none⟩ := by unfold Addr.add; split <;> simp_all
      rw [this, Blk.cell (t := 3) (cs := cur) hg]
      rw [← ht, List.getElem?_take] at hj
      split at hj
      · simpa using hj
      · cases hj) (by simp [Value.oneCell']) (by unfold maxLen; omega) (by omega) hb
    exact ⟨u', w', h1, by unfold NewI; rw [List.length_append, List.map_append]; exact h2, h3⟩
theorem wpList_append_run {w : World} {ops : Array Oper} {rest : List Oper} {o : Oper} {a : Act} {Q : Exit → Act → World → Prop} (hgd : o.guard = none) (s x : Operand) (t : TypeId)
    (ho : o.op = .call { callee := .builtin .append, args := #[s, x], argTypes := #[t, t] }) {v u v' : Value} {w' : World} (hs : a.eval s = v) (hx : a.eval x = u)
    (hr : (Builtin.append_ #[t, t] o.type #[v, u]).run Try.prog w = .ok v' w') (h : wpList Try.prog ops Q rest (a.put o.dst v') w') : wpList Try.prog ops Q (o :: rest) a w := by
  refine wpList_plain hgd fun K hK => ?_
  unfold Oper.wp
  simp [execOp, ho, resolve, invoke, builtin, hs, hx, hr, Result.andThen]
  exact hK _ _ h
end Go.Proofs.Ytkkajcakgihckaa
