/- WireH: plain laws of texts in pieces. -/
import Derived.Test.YtfedhhndkeakhaaDoorWireG
import Derived.Test.YtfedhhndkeakhaaDoorWireN
namespace Go.Proofs.YtfedhhndkeakhaaDoor

/-- More bytes do not change what is told, but for 'too short'. -/
theorem try_more {u u' : ByteArray} {r : List UInt8} (h : ls u = ls u' ++ r) (hx : tryE u' ≠ some 2) :
    tryE u = tryE u' ∧ (tryE u' = none → frOf u = frOf u' ∧ n35 u = n35 u') := by
  have hz : u.size = u'.size + r.length := by rw [ls_size, h, List.length_append, ls_size]
  have h0 : u'.size ≠ 0 := fun h0 => hx (by unfold tryE kindE; rw [if_pos h0])
  have hb : byte0 u = byte0 u' := by
    obtain ⟨k, l, hl⟩ : ∃ k l, ls u' = k :: l := by
      cases hl : ls u' with
      | nil => exact absurd (by rw [ls_size, hl]; rfl) h0
      | cons k l => exact ⟨k, l, rfl⟩
    rw [hl] at h
    unfold byte0
    rw [show u.data.toList = k :: (l ++ r) from h, show u'.data.toList = k :: l from hl]
  have hk : kindE u = kindE u' := by
    unfold kindE
    rw [if_neg (by omega), if_neg h0, hb]
  cases hk' : kindE u' with
  | some g => unfold tryE; rw [hk, hk']; exact ⟨rfl, fun h => by cases h⟩
  | none =>
    have h5 : ¬ u'.size < 5 := fun h5 => hx (by unfold tryE; rw [hk']; unfold headE; rw [if_pos h5])
    obtain ⟨k, a, b, c, d, l, hl⟩ := five (l := ls u') (by rw [← ls_size]; omega)
    rw [hl] at h
    obtain ⟨g1, g2, g3, g4, g5⟩ := head5 (r := l ++ r) h
    obtain ⟨q1, q2, q3, q4, q5⟩ := head5 hl
    have hn : n35 u = n35 u' := by rw [g3, q3]
    have hh : headE u = headE u' := by
      unfold headE
      rw [if_neg (by omega), if_neg h5, hn]
    cases hh' : headE u' with
    | some g => unfold tryE; rw [hk, hk', hh, hh']; exact ⟨rfl, fun h => by cases h⟩
    | none =>
      have hs : ¬ (u'.size : Int) < 5 + n35 u' := fun hs => hx (by unfold tryE; rw [hk', hh']; unfold dataE; rw [if_pos hs])
      have hf : frOf u = frOf u' := by
        have h0' : 0 ≤ n35 u' := (num2_bd (u'.extract 3 5)).1
        obtain ⟨n, hn'⟩ : ∃ n : Nat, n35 u' = n := ⟨(n35 u').toNat, by omega⟩
        have hx : u.extract 5 (5 + n35 u').toNat = u'.extract 5 (5 + n35 u').toNat := ls_ext (by
          rw [hn', show (5 + (n : Int)).toNat = 5 + n by omega, g5, q5, List.take_append_of_le_length (by omega)])
        unfold frOf
        rw [hb, hn, g2, q2, hx]
      have hd : dataE u = dataE u' := by
        unfold dataE
        rw [if_neg (by omega), if_neg hs, hf]
      unfold tryE
      rw [hk, hk', hh, hh', hd]
      exact ⟨rfl, fun _ => ⟨hf, hn⟩⟩

theorem ls_tail (s : ByteArray) (a : Nat) : ls (s.extract a s.size) = (ls s).drop a := by
  rw [ls_extract, List.take_of_length_le]
  rw [List.length_drop, ← ls_size]
  omega
theorem takeA_pre {s : ByteArray} {c p : Nat} (h : c ≤ s.size) (hp : p ≤ c) {f : Fr} {n : Int} {x : Option Nat} (hA : takeA (s.extract 0 c) p = (f, n, x)) (hx : x ≠ some 2) : takeA s p = (f, n, x) := by
  have hz : (s.extract 0 c).size = c := by rw [extract_size]; omega
  have hl : ls (s.extract p s.size) = ls ((s.extract 0 c).extract p (s.extract 0 c).size) ++ (ls s).drop c := by
    rw [ls_tail, ls_tail, ls_extract, List.drop_zero, Nat.sub_zero, List.drop_take]
    rw [show (ls s).drop c = ((ls s).drop p).drop (c - p) by rw [List.drop_drop]; congr 1; omega, List.take_append_drop]
  cases ht : tryE ((s.extract 0 c).extract p (s.extract 0 c).size) with
  | some q =>
    rw [takeA_some (by omega) ht] at hA
    cases hA
    obtain ⟨h1, _⟩ := try_more hl (by rw [ht]; exact hx)
    exact takeA_some (by omega) (by rw [h1, ht])
  | none =>
    rw [takeA_none (by omega) ht] at hA
    obtain ⟨h1, h2⟩ := try_more hl (by rw [ht]; simp)
    obtain ⟨h2, h3⟩ := h2 ht
    rw [takeA_none (by omega) (by rw [h1, ht]), h2, h3, hA]
/-- The place behind some items. -/
def lastF (a : Int) (l : List (Int × Fr)) : Int := (l.getLast?.map (·.1)).getD a
theorem lastF_cons (a : Int) (x : Int × Fr) (l : List (Int × Fr)) : lastF a (x :: l) = lastF x.1 l := by
  unfold lastF
  rw [List.getLast?_cons]
  cases l.getLast? <;> rfl
theorem chain_pre {s : ByteArray} {c : Nat} (h : c ≤ s.size) {q : Nat} (hq : q ≠ 2) : ∀ (L : List (Int × Fr)) (a : Int), 0 ≤ a → a ≤ c → Chain (s.extract 0 c) a L q → Chain s a L q
  | [], a, h0, h1, ⟨f, n, hc⟩ => by
    obtain ⟨p, rfl⟩ : ∃ p : Nat, a = p := ⟨a.toNat, by omega⟩
    exact ⟨f, n, takeA_pre h (by omega) hc (by simpa using hq)⟩
  | x :: L, a, h0, h1, ⟨hc, hr⟩ => by
    obtain ⟨p, rfl⟩ : ∃ p : Nat, a = p := ⟨a.toNat, by omega⟩
    have h3 := takeA_next hc
    have hz : (s.extract 0 c).size = c := by rw [extract_size]; omega
    exact ⟨takeA_pre h (by omega) hc (by simp), chain_pre h hq L x.1 (by omega) (by omega) hr⟩
theorem chain_app {s : ByteArray} {c : Nat} (h : c ≤ s.size) {q q' : Nat} {M : List (Int × Fr)} : ∀ (L : List (Int × Fr)) (a : Int), 0 ≤ a → a ≤ c → Chain (s.extract 0 c) a L q' → Chain s (lastF a L) M q → Chain s a (L ++ M) q
  | [], a, h0, h1, _, hm => hm
  | x :: L, a, h0, h1, ⟨hc, hr⟩, hm => by
    obtain ⟨p, rfl⟩ : ∃ p : Nat, a = p := ⟨a.toNat, by omega⟩
    have h3 := takeA_next hc
    have hz : (s.extract 0 c).size = c := by rw [extract_size]; omega
    rw [lastF_cons] at hm
    exact ⟨takeA_pre h (by omega) hc (by simp), chain_app h L x.1 (by omega) (by omega) hr hm⟩
theorem chain_uniq {s : ByteArray} {q q' : Nat} : ∀ (L L' : List (Int × Fr)) (a : Int), Chain s a L q → Chain s a L' q' → L = L' ∧ q = q'
  | [], [], a, ⟨f, n, h⟩, ⟨f', n', h'⟩ => by
    rw [h] at h'
    cases h'
    exact ⟨rfl, rfl⟩
  | [], x :: L', a, ⟨f, n, h⟩, ⟨h', _⟩ => by
    rw [h] at h'
    cases h'
  | x :: L, [], a, ⟨h', _⟩, ⟨f, n, h⟩ => by
    rw [h] at h'
    cases h'
  | x :: L, y :: L', a, ⟨h, hr⟩, ⟨h', hr'⟩ => by
    rw [h] at h'
    have e1 : x.2 = y.2 := congrArg (·.1) h'
    have e2 : x.1 = y.1 := congrArg (·.2.1) h'
    obtain rfl : x = y := Prod.ext e2 e1
    obtain ⟨rfl, rfl⟩ := chain_uniq L L' x.1 hr hr'
    exact ⟨rfl, rfl⟩
theorem chain_last {s : ByteArray} {q : Nat} : ∀ (L : List (Int × Fr)) (a : Int), 0 ≤ a → a ≤ s.size → Chain s a L q → a ≤ lastF a L ∧ lastF a L ≤ s.size
  | [], a, _, h1, _ => ⟨Int.le_refl _, h1⟩
  | x :: L, a, h0, h1, ⟨hc, hr⟩ => by
    have h3 := takeA_next hc
    have := chain_last L x.1 (by omega) (by omega) hr
    rw [lastF_cons]
    omega
theorem allA_of_chain {s : ByteArray} {L : List (Int × Fr)} {q : Nat} (h : Chain s 0 L q) : allA s = (L.map (·.2), lastF 0 L, if q = 2 then 0 else toldN (some q)) := by
  obtain ⟨h1, h2⟩ := chain_uniq _ _ 0 (items_chain s) h
  unfold allA
  rw [h1, h2]
  rfl
theorem tail_extract (s : ByteArray) (m p : Nat) : (s.extract m s.size).extract p (s.extract m s.size).size = s.extract (m + p) s.size := ls_ext (by
  rw [ls_tail, ls_tail, ls_tail, List.drop_drop])
theorem chain_shift {s : ByteArray} {m : Nat} (h : m ≤ s.size) {q : Nat} : ∀ (L : List (Int × Fr)) (a : Int), 0 ≤ a → a + m ≤ s.size → Chain (s.extract m s.size) a L q → Chain s (m + a) (L.map fun x => (m + x.1, x.2)) q
  | [], a, h0, h1, ⟨f, n, hc⟩ => by
    obtain ⟨p, rfl⟩ : ∃ p : Nat, a = p := ⟨a.toNat, by omega⟩
    have hz : (s.extract m s.size).size = s.size - m := by rw [extract_size]; omega
    have he := tail_extract s m p
    cases ht : tryE (s.extract (m + p) s.size) with
    | some g =>
      rw [takeA_some (by omega) (by rw [he]; exact ht)] at hc
      cases hc
      exact ⟨_, _, takeA_some (a := m + p) (by omega) ht⟩
    | none =>
      rw [takeA_none (by omega) (by rw [he]; exact ht)] at hc
      cases hc
  | x :: L, a, h0, h1, ⟨hc, hr⟩ => by
    obtain ⟨p, rfl⟩ : ∃ p : Nat, a = p := ⟨a.toNat, by omega⟩
    have hz : (s.extract m s.size).size = s.size - m := by rw [extract_size]; omega
    have he := tail_extract s m p
    have h3 := takeA_next hc
    refine ⟨?_, chain_shift h L x.1 (by omega) (by omega) hr⟩
    cases ht : tryE (s.extract (m + p) s.size) with
    | some g =>
      rw [takeA_some (by omega) (by rw [he]; exact ht)] at hc
      exact absurd (congrArg (·.2.2) hc) (by simp)
    | none =>
      rw [takeA_none (by omega) (by rw [he]; exact ht), he] at hc
      have e1 : frOf (s.extract (m + p) s.size) = x.2 := congrArg (·.1) hc
      have e2 : (p : Int) + 5 + n35 (s.extract (m + p) s.size) = x.1 := congrArg (·.2.1) hc
      have := takeA_none (a := m + p) (by omega) ht
      rw [show ((m : Int) + p) = ((m + p : Nat) : Int) by omega, this, e1, show ((m + p : Nat) : Int) + 5 + n35 (s.extract (m + p) s.size) = m + x.1 by omega]
theorem lastF_map (m : Int) (L : List (Int × Fr)) (a : Int) : lastF (m + a) (L.map fun x => (m + x.1, x.2)) = m + lastF a L := by
  unfold lastF
  rw [List.getLast?_map]
  cases L.getLast? <;> simp
theorem lastF_app (L M : List (Int × Fr)) (a : Int) : lastF a (L ++ M) = lastF (lastF a L) M := by
  unfold lastF
  rw [List.getLast?_append]
  cases M.getLast? <;> simp
theorem told_pos {q : Nat} (h : q < 5) : toldN (some q) ≠ 0 := by
  match q, h with
  | 0, _ | 1, _ | 2, _ | 3, _ | 4, _ => decide

attribute [local irreducible] items endE
theorem pieces_bad {s : ByteArray} {c : Nat} (h : c ≤ s.size) (hq : (allA (s.extract 0 c)).2.2 ≠ 0) : allA s = allA (s.extract 0 c) := by
  have hc := items_chain (s.extract 0 c)
  have h2 : endE (s.extract 0 c) ≠ 2 := fun h2 => hq (by unfold allA; rw [if_pos h2])
  rw [allA_of_chain hc, allA_of_chain (chain_pre h h2 _ 0 (Int.le_refl _) (by omega) hc)]
theorem pieces_good {s : ByteArray} {c : Nat} (h : c ≤ s.size) {L : List Fr} {m : Int} (hA : allA (s.extract 0 c) = (L, m, 0)) :
    ∃ k : Nat, m = k ∧ k ≤ c ∧ ∀ M n g, allA (s.extract k s.size) = (M, n, g) → allA s = (L ++ M, m + n, g) := by
  have hc := items_chain (s.extract 0 c)
  have hz : (s.extract 0 c).size = c := by rw [extract_size]; omega
  have h2 : endE (s.extract 0 c) = 2 := by
    apply Decidable.byContradiction
    intro h2
    have := congrArg (·.2.2) hA
    unfold allA at this
    rw [if_neg h2] at this
    exact told_pos (endE_lt _) this
  rw [h2] at hc
  have hl := chain_last _ 0 (Int.le_refl _) (by omega) hc
  have e0 := allA_of_chain hc
  rw [hA] at e0
  have e1 : L = (items (s.extract 0 c)).map (·.2) := congrArg (·.1) e0
  have e2 : m = lastF 0 (items (s.extract 0 c)) := congrArg (·.2.1) e0
  rw [← e2] at hl
  obtain ⟨k, rfl⟩ : ∃ k : Nat, m = k := ⟨m.toNat, by omega⟩
  refine ⟨k, rfl, by omega, fun M n g hM => ?_⟩
  have hc2 := items_chain (s.extract k s.size)
  have e3 := allA_of_chain hc2
  rw [hM] at e3
  have f1 : M = (items (s.extract k s.size)).map (·.2) := congrArg (·.1) e3
  have f2 : n = lastF 0 (items (s.extract k s.size)) := congrArg (·.2.1) e3
  have f3 : g = _ := congrArg (·.2.2) e3
  have hs := chain_shift (s := s) (m := k) (by omega) _ 0 (Int.le_refl _) (by omega) hc2
  rw [Int.add_zero] at hs
  have := chain_app h _ 0 (Int.le_refl _) (by omega) hc (by rw [← e2]; exact hs)
  rw [allA_of_chain this, lastF_app, ← e2, f3, e1, f1, f2]
  have hlm := lastF_map k (items (s.extract k s.size)) 0
  rw [Int.add_zero] at hlm
  rw [hlm]
  simp

/-- Where the loop of WireCuts stops: the place, how many. -/
def cutN (c : Nat) : Nat → List Fr → Nat × Nat
  | p, [] => (p, 0)
  | p, f :: L => if p + 5 + f.data.size ≤ c then ((cutN c (p + 5 + f.data.size) L).1, (cutN c (p + 5 + f.data.size) L).2 + 1) else (p, 0)
theorem cutN_le (c : Nat) : ∀ (L : List Fr) (p : Nat), (cutN c p L).2 ≤ L.length
  | [], _ => Nat.le_refl _
  | f :: L, p => by
    unfold cutN
    split
    · exact Nat.succ_le_succ (cutN_le c L _)
    · simp
def encs (L : List Fr) : List UInt8 := L.flatMap fun f => ls (encA f).1
theorem layL_ls : ∀ (L : List Fr) (a s : ByteArray), layL a L = (s, true) → (∀ f ∈ L, rightF f = true) ∧ ls s = ls a ++ encs L
  | [], a, s, h => by
    obtain rfl : a = s := congrArg (·.1) h
    exact ⟨by simp, by simp [encs]⟩
  | f :: L, a, s, h => by
    unfold layL at h
    split at h
    · rename_i hf
      obtain ⟨h1, h2⟩ := layL_ls L _ s h
      refine ⟨fun g hg => ?_, ?_⟩
      · cases hg with
        | head => exact hf
        | tail _ hg => exact h1 g hg
      · rw [h2, ls_append, List.append_assoc]
        rfl
    · cases congrArg (·.2) h
theorem chain_cuts {s : ByteArray} {c : Nat} (hc : c ≤ s.size) : ∀ (L : List Fr) (p : Nat), (∀ f ∈ L, rightF f = true) → (ls s).drop p = encs L → p ≤ c →
    ∃ M, Chain (s.extract 0 c) p M 2 ∧ M.map (·.2) = L.take (cutN c p L).2 ∧ lastF p M = (cutN c p L).1 := by
  have hz : (s.extract 0 c).size = c := by rw [extract_size]; omega
  have hu : ∀ p, ls ((s.extract 0 c).extract p (s.extract 0 c).size) = ((ls s).drop p).take (c - p) := fun p => by
    rw [ls_tail, ls_extract, List.drop_zero, Nat.sub_zero, List.drop_take]
  intro L
  induction L with
  | nil =>
    intro p _ hd hp
    refine ⟨[], ⟨fr0, 0, takeA_some (by omega) ?_⟩, rfl, rfl⟩
    have : ((s.extract 0 c).extract p (s.extract 0 c).size).size = 0 := by rw [ls_size, hu, hd]; simp [encs]
    unfold tryE kindE
    rw [if_pos this]
  | cons f L ih =>
    intro p hr hd hp
    have hf := hr f (by simp)
    have he : encs (f :: L) = ls (encA f).1 ++ encs L := rfl
    have hn : (ls (encA f).1).length = 5 + f.data.size := by rw [← ls_size, encA_size hf]
    by_cases hle : p + 5 + f.data.size ≤ c
    · have hcu : cutN c p (f :: L) = ((cutN c (p + 5 + f.data.size) L).1, (cutN c (p + 5 + f.data.size) L).2 + 1) := by
        rw [cutN, if_pos hle]
      have hd2 : (ls s).drop (p + 5 + f.data.size) = encs L := by
        rw [show p + 5 + f.data.size = p + (5 + f.data.size) by omega, ← List.drop_drop, hd, he, List.drop_append_of_le_length (by omega), List.drop_of_length_le (by omega)]
        rfl
      obtain ⟨M, h1, h2, h3⟩ := ih (p + 5 + f.data.size) (fun g hg => hr g (by simp [hg])) hd2 hle
      obtain ⟨t1, t2, t3⟩ := try_frame (u := (s.extract 0 c).extract p (s.extract 0 c).size) hf (r := (encs L).take (c - p - (5 + f.data.size))) (by
        rw [hu, hd, he, List.take_append, hn, List.take_of_length_le (by omega)])
      refine ⟨(((p + 5 + f.data.size : Nat) : Int), f) :: M, ⟨?_, h1⟩, ?_, ?_⟩
      · rw [takeA_none (by omega) t1, t2, t3]
        simp
      · rw [hcu, List.map_cons, h2]
        rfl
      · rw [hcu, lastF_cons, h3]
    · have hcu : cutN c p (f :: L) = (p, 0) := by rw [cutN, if_neg hle]
      refine ⟨[], ⟨fr0, 0, takeA_some (by omega) ?_⟩, by rw [hcu]; rfl, by rw [hcu]; rfl⟩
      exact try_short hf (r := encs L) (m := c - p) (by rw [hu, hd, he]) (by omega)
theorem cuts {L : List Fr} {s : ByteArray} (h : layL ⟨#[]⟩ L = (s, true)) {c : Nat} (hc : c ≤ s.size) : allA (s.extract 0 c) = (L.take (cutN c 0 L).2, ((cutN c 0 L).1 : Int), 0) := by
  obtain ⟨h1, h2⟩ := layL_ls L _ s h
  obtain ⟨M, h3, h4, h5⟩ := chain_cuts hc L 0 h1 h2 (by omega)
  rw [allA_of_chain h3, h4, ← h5]
  rfl
end Go.Proofs.YtfedhhndkeakhaaDoor
