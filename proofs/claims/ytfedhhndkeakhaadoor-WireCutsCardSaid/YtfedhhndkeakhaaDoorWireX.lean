/- The frames of a text, one after the other: the iterator's walk. -/
import Derived.Test.YtfedhhndkeakhaaDoorWireW
import Derived.Test.YtfedhhndkeakhaaDoorIterW
import Derived.Sort.LoopGhostIn
namespace Go.Proofs.YtfedhhndkeakhaaDoor
open Go.RowKit Go.Shelf
attribute [local go_sem] Oper.semAt_some
attribute [local go_sem ↓] Go.wp_at_zero Go.wp_at_succ

/-- From a place on lie these frames, each with the place behind; then error q. -/
def Chain (s : ByteArray) : Int → List (Int × Fr) → Nat → Prop
  | a, [], q => ∃ f n, takeA s a = (f, n, some q)
  | a, x :: L, q => takeA s a = (x.2, x.1, none) ∧ Chain s x.1 L q

theorem takeA_next {s : ByteArray} {a : Int} {f : Fr} {n : Int} (h : takeA s a = (f, n, none)) : 0 ≤ a ∧ a + 5 ≤ n ∧ n ≤ s.size ∧ n = a + 5 + f.data.size ∧ rightF f = true := by
  unfold takeA at h
  split at h
  · cases h
  · rename_i hb
    obtain ⟨k, rfl⟩ : ∃ k : Nat, a = k := ⟨a.toNat, by omega⟩
    rw [Int.toNat_natCast] at h
    obtain ⟨t, ht⟩ : ∃ t, s.extract k s.size = t := ⟨_, rfl⟩
    rw [ht] at h
    cases hq : tryE t with
    | some q => rw [hq] at h; cases h
    | none =>
      rw [hq] at h
      have hsz : t.size = s.size - k := by rw [← ht, extract_size]; omega
      have hd : dataE t = none := by
        unfold tryE at hq
        cases h1 : kindE t with
        | some g1 => rw [h1] at hq; cases hq
        | none =>
          rw [h1] at hq
          dsimp only at hq
          cases h2 : headE t with
          | some g1 => rw [h2] at hq; cases hq
          | none => rw [h2] at hq; exact hq
      unfold dataE at hd
      have h0 := (num2_bd (t.extract 3 5)).1
      split at hd
      · cases hd
      · rename_i h3
        split at hd
        · rename_i hr
          cases h
          have h0 : 0 ≤ n35 t := h0
          have hds : ((frOf t).data.size : Int) = n35 t := by
            show ((t.extract 5 (5 + n35 t).toNat).size : Int) = n35 t
            rw [extract_size]; omega
          exact ⟨by omega, by omega, by omega, by rw [hds], hr⟩
        · cases hd

/-- The frames from a place on, by fuel. -/
def itemsF (s : ByteArray) : Nat → Int → List (Int × Fr) × Nat
  | 0, _ => ([], 1)
  | k + 1, a => match takeA s a with
    | (f, n, none) => ((n, f) :: (itemsF s k n).1, (itemsF s k n).2)
    | (_, _, some q) => ([], q)
theorem itemsF_chain (s : ByteArray) : ∀ (k : Nat) (a : Int), (s.size : Int) < a + k → Chain s a (itemsF s k a).1 (itemsF s k a).2
  | 0, a, h => by
    have : takeA s a = (fr0, 0, some 1) := takeA_bad (.inr (by omega))
    exact ⟨_, _, this⟩
  | k + 1, a, h => by
    unfold itemsF
    cases hq : takeA s a with
    | mk f p =>
      obtain ⟨n, x⟩ := p
      cases x with
      | some q => exact ⟨_, _, hq⟩
      | none => exact ⟨hq, itemsF_chain s k n (by have := takeA_next hq; omega)⟩
/-- A text's frames, each with the place behind; and what ends them. -/
def items (s : ByteArray) : List (Int × Fr) := (itemsF s (s.size + 1) 0).1
def endE (s : ByteArray) : Nat := (itemsF s (s.size + 1) 0).2
theorem items_chain (s : ByteArray) : Chain s 0 (items s) (endE s) := itemsF_chain s _ 0 (by omega)

def itemV (x : Int × Fr) : Array Value := #[.int .i64 x.1, x.2.v]
/-- What the iterator reads. -/
def Reads (sb tb eb : Nat) (s : ByteArray) (e : Nat → Addr) (A : World) : Prop :=
  A.cell? ⟨sb, 0, none⟩ = some (.string s) ∧ A.cell? ⟨tb, 0, none⟩ = some (.pointer (some ⟨eb, 0, none⟩)) ∧ (∃ v, A.cell? ⟨eb, 0, none⟩ = some v) ∧ A.frozen? ⟨eb, 0, none⟩ = false ∧ Env A e

set_option maxRecDepth 100000 in
set_option maxHeartbeats 2000000 in
theorem frames1_in (n l sb tb eb : Nat) (s : ByteArray) (hs : s.size ≤ maxLen) (e : Nat → Addr) (J : List (Int × Fr) → World → Prop) (W : World) (hJ : ∀ p A A', J p A → Keeps [] A A' → J p A') (hV : ∀ p A, J p A → Reads sb tb eb s e A)
    (hY : ∀ pre x W1, J pre W1 → pre.length < (items s).length → YieldAt Fence.wide (n - 1) Tryd.prog l (itemV x) W1 fun r W' => r = .returned (.bool true) ∧ J (pre ++ [x]) W') (h0 : J [] W) :
    CallsIn Fence.wide n Tryd.prog 40 #[.func (.yield l) #[] #[], .pointer (some ⟨sb, 0, none⟩), .pointer (some ⟨tb, 0, none⟩)] W fun r W' => (∃ v, r = .returned v) ∧
      ∃ W2, J (items s) W2 ∧ W2.setCell ⟨eb, 0, none⟩ (errV e (some (endE s))) = W' := by
  have HJ := Lib.hid hJ
  have HV := Lib.hid hV
  have HY := Lib.hid hY
  have HJ0 := Lib.hid h0
  have HS := Lib.hid hs
  clear hJ hV hY h0 hs
  have hn1 : Fence.wide.depth.isSome = true → 1 ≤ n := by intro h; cases h
  refine callsIn_of_wp Tryd.func40 rfl trivial ?_ rfl
  simp only [Tryd.ntmps40, List.size_toArray, List.length_cons, List.length_nil, Nat.reduceAdd, Nat.reduceSub, Array.replicate_succ, Array.replicate_zero, List.push_toArray, List.append_toArray, List.nil_append, List.cons_append]
  refine wpIn_scope_wide ?_
  gi_wp2
  refine wpIn_label ?_
  gi_wp2
  gi_loopg [4] (items s).length (fun g a wr => ∃ (pre suf : List (Int × Fr)) (k : Int), g = suf.length ∧ pre ++ suf = items s ∧ a = .int .i64 k ∧ Hid (Chain s k suf (endE s)) ∧ Hid (J pre wr))
  case atStart => exact ⟨[], items s, 0, rfl, rfl, rfl, Lib.hid (items_chain s), HJ0⟩
  case round =>
    obtain ⟨pre, suf, k, rfl, hps, rfl, HC, HP⟩ := hrel
    obtain ⟨c1, c2, ⟨ev, c3⟩, f3, hE⟩ := HV.out pre wr HP.out
    have HE := Lib.hid hE
    have HPS := Lib.hid hps
    clear hE hps
    cases suf with
    | nil =>
      obtain ⟨f, m, hA⟩ := HC.out
      have HA := Lib.hid hA
      clear hA
      gi_wp2_with (fail)
      refine ⟨trivial, hn1, (callsIn_wide.2 (take_any s HS.out k f m _ HA.out _ e HE.out)).mono ?_⟩
      rintro r w1 ⟨rfl, hk⟩
      have hj1 : J pre w1 := HJ.out _ _ _ HP.out hk
      have hj2 : J pre (w1.alloc (.cells f.cells 23)) := HJ.out _ _ _ hj1 ((Keeps.refl [] w1).alloc _)
      obtain ⟨c1, c2, ⟨ev, c3⟩, f3, hE⟩ := HV.out pre _ hj2
      unfold Fr.cells at c1 c2 c3 f3
      have HJ2 := Lib.hid hj2
      have HPS2 : Hid (pre = items s) := Lib.hid (by have := HPS.out; simpa using this)
      unfold Fr.v errV
      clear hk hj1 hj2 hE
      gi_wp2
      try rw [Exit.noGoto_normal]
      go_end0
      exact ⟨⟨_, rfl⟩, _, (HPS2.out ▸ HJ2.out), rfl⟩
    | cons x suf =>
      obtain ⟨hA, hC⟩ := HC.out
      have HA := Lib.hid hA
      have HC2 := Lib.hid hC
      clear hA hC HC
      gi_wp2_with (fail)
      refine ⟨trivial, hn1, (callsIn_wide.2 (take_any s HS.out k x.2 x.1 none HA.out _ e HE.out)).mono ?_⟩
      rintro r w1 ⟨rfl, hk⟩
      have hj1 : J pre w1 := HJ.out _ _ _ HP.out hk
      have hj2 : J pre (w1.alloc (.cells x.2.cells 23)) := HJ.out _ _ _ hj1 ((Keeps.refl [] w1).alloc _)
      have hy0 := HY.out pre x _ hj2 (by rw [← HPS.out]; simp)
      obtain ⟨fn, tmps, assign, body, hy, hR⟩ := hy0
      obtain ⟨d0, d1, d2⟩ := fr_res (Blk.new w1 23 x.2.cells)
      unfold Fr.cells at hy hR d0 d1 d2
      simp only [itemV] at hy
      unfold Fr.v at hy
      unfold Fr.v errV
      clear hk hj1 hj2 c1 c2 c3 f3
      gi_wp2
      refine ⟨hn1, ?_⟩
      refine hR.mono ?_
      rintro r W3 ⟨rfl, hj3⟩
      have HJ3 := Lib.hid hj3
      have HPS3 : Hid ((pre ++ [x]) ++ suf = items s) := Lib.hid (by rw [← HPS.out]; simp)
      clear hR hy hj3
      gi_wp2
      gi_roundg suf.length
      case rel => exact ⟨pre ++ [x], suf, x.1, rfl, HPS3.out, rfl, HC2, HJ3⟩
      case measure => simp

theorem frames_seq (n sb tb eb : Nat) (s : ByteArray) (hs : s.size ≤ maxLen) (e : Nat → Addr) (w : World) :
    SeqW Fence.wide n Tryd.prog 40 #[.pointer (some ⟨sb, 0, none⟩), .pointer (some ⟨tb, 0, none⟩)] itemV (items s) (Reads sb tb eb s e) (fun A A' => A.setCell ⟨eb, 0, none⟩ (errV e (some (endE s))) = A') w :=
  fun l J W _ hJ hV hY h0 => frames1_in n l sb tb eb s hs e J W hJ hV hY h0

theorem frames_any (s : ByteArray) (eb : Addr) (w : World) :
    Calls Tryd.prog 33 #[.string s, .pointer (some eb)] w fun r w' => r = .returned (.func (.func 40) #[] #[.pointer (some ⟨w.heap.size, 0, none⟩), .pointer (some ⟨w.heap.size + 1, 0, none⟩)]) ∧ (w.alloc (.cells #[.string s] 9)).alloc (.cells #[.pointer (some eb)] 64) = w' := by
  go_enter Tryd.func33, Tryd.ntmps33
  go_wp2
  go_ret
  exact ⟨rfl, rfl⟩
end Go.Proofs.YtfedhhndkeakhaaDoor
