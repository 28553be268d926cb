/- Words for ranges over functions: no program in sight. -/
import Derived.Test.YtkkajcakgihckaaBase
import Derived.RangeFuncBox
import Derived.RangeFuncLeaves
import Derived.RangeFuncNested
import Derived.RangeFuncBound
import Derived.RangeFuncCalls
import Derived.Shelf.Abstract
import Derived.Shelf.RegionOpen
import Derived.OwnWalkIn
import Derived.TacticsInMore
import Derived.LoopNIn
import Derived.LoopIn
import Derived.Maps.AppendAt
import Derived.Laws.EntriesVeiled
import Derived.Sort.QuietIn
import Derived.WalkMore
import Derived.Deep.RegionHeld3
import Derived.Deep.DrawnRows
namespace Go.Proofs.Ytkkajcakgihckaa
open Go.RowKit Go.Shelf

theorem wpIn_scope_wide {n : Nat} {P : Program} {Q : Exit → Act → World → Prop} {a : Act} {w : World} {c : Code} (h : c.wpIn Fence.wide n P (Exit.noGoto Q) a w) : (Code.scope c).wpIn Fence.wide n P Q a w :=
  wpIn_wide.2 (wp_scope_straight (wpIn_wide.1 h))

/-- The blocks of L lie as they lay. -/
def SameOn (L : List Nat) (W W' : World) : Prop := ∀ k ∈ L, W'.heap[k]? = W.heap[k]?
theorem SameOn.trans {L : List Nat} {A B C : World} (h : SameOn L A B) (k : SameOn L B C) : SameOn L A C := fun i hi => (k i hi).trans (h i hi)
theorem SameOn.refl (L : List Nat) (A : World) : SameOn L A A := fun _ _ => rfl
theorem SameOn.put {L : List Nat} {N : Nat} (hL : ∀ k ∈ L, k < N) (W : World) (l : Nat) (o o' : Obj) (hl : N ≤ l) (_ : W.heap[l]? = some o) (_ : o.isCells = false) (_ : o.isWalk = false) : SameOn L W (W.putObj l o') :=
  fun k hk => World.putObj_heap_other (by have := hL k hk; omega)
theorem SameOn.blk {L : List Nat} {W W' : World} {g : Nat} {t : TypeId} {cs : Array Value} (h : SameOn L W W') (hg : g ∈ L) (hb : Blk W g t cs) : Blk W' g t cs := (h g hg).trans hb

theorem yield_one {P : Program} {F : Fence} {n l : Nat} {args : Array Value} {W : World} {G H : World → Prop} (h : YieldAt F n P l args W fun e W' => (e = .returned (.bool true) ∧ G W') ∨ (e = .returned (.bool false) ∧ H W')) :
    YieldAt F n P l args W fun e W' => ∃ g : Bool, e = .returned (.bool g) ∧ Hid (g = true → G W') ∧ Hid (g = false → H W') := by
  obtain ⟨fn, tmps, assign, body, hy, hR⟩ := h
  refine ⟨fn, tmps, assign, body, hy, hR.mono ?_⟩
  rintro e W' (⟨rfl, h⟩ | ⟨rfl, h⟩)
  · exact ⟨true, rfl, (fun _ => h : true = true → G W'), (fun h => (by cases h) : true = false → H W')⟩
  · exact ⟨false, rfl, (fun h => (by cases h) : false = true → G W'), (fun _ => h : false = false → H W')⟩

theorem appended_far {W w1 : World} {n₀ B : Nat} {t e : TypeId} {size : Nat} {v v' : Value} {k m : Nat} {xs ys : List Value} {tmp : Obj}
    (hv : Boxed W B t v) (hrow : W.ownsRow n₀ e size v k xs) (hn₀ : n₀ ≤ W.heap.size) (hB : B < n₀)
    (hown' : w1.ownsRow n₀ e size v' m ys) (hgrow : (W.alloc tmp).grownBy w1 v.ownBlock) :
    Boxed w1 B t v ∧ Boxed (w1.setCell ⟨B, 0, none⟩ v') B t v' ∧ (w1.setCell ⟨B, 0, none⟩ v').ownsRow n₀ e size v' m ys ∧ KeepsOthers W (w1.setCell ⟨B, 0, none⟩ v') ∧ Below B W (w1.setCell ⟨B, 0, none⟩ v') ∧
    (∀ j, j < n₀ → j ≠ B → (w1.setCell ⟨B, 0, none⟩ v').heap[j]? = W.heap[j]?) := by
  have hrb : ∀ j, v.ownBlock = some j → n₀ ≤ j := fun j ej => by
    rcases hrow.2 with ⟨rfl, _⟩ | ⟨g, cap, cur, rfl, hb, _, _⟩
    · simp [Value.ownBlock] at ej
    · obtain rfl : g = j := by simpa [Value.ownBlock] using ej
      exact hb
  have hv1 : Boxed w1 B t v := (hv.alloc tmp).kept hgrow (fun ej => by have := hrb B ej.symm; omega)
  refine ⟨hv1, hv1.set v', ownsRow_setCell_below hown' (a := ⟨B, 0, none⟩) hB v', ?_, ?_, ?_⟩
  · refine ((KeepsOthers.alloc W tmp).trans (KeepsOthers.of_grownBy hgrow fun j o ej hj => ?_)).trans (KeepsOthers.setCell _ _ _)
    rcases (hrow.alloc tmp).2 with ⟨rfl, _⟩ | ⟨g, cap, cur, rfl, _, hgb, _⟩
    · simp [Value.ownBlock] at ej
    · obtain rfl : g = j := by simpa [Value.ownBlock] using ej
      rw [hgb] at hj; cases hj; rfl
  · exact (((Below.refl B W).alloc (by omega) tmp).grown hgrow (by simp; omega) fun j ej => by have := hrb j ej; omega).setCell (p := ⟨B, 0, none⟩) (Nat.le_refl _) v'
  · intro j hj hne
    rw [Below.heap_setCell _ _ _ _ (by simpa using hne), hgrow.block j (by simp; omega) (fun ej => by have := hrb j ej.symm; omega)]
    exact Below.heap_alloc _ _ _ (by omega)

end Go.Proofs.Ytkkajcakgihckaa
