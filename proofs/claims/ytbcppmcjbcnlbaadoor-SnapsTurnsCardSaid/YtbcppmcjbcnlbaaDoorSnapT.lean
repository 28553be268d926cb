/- Page as one law: whatever it is asked, this is what it answers. -/
import Derived.Test.YtbcppmcjbcnlbaaDoorSnapS
namespace Go.Proofs.YtbcppmcjbcnlbaaDoor
open Go.RowKit Go.Shelf
attribute [local go_sem ↓] Go.wp_at_zero Go.wp_at_succ

theorem page_fr (a : Option Addr) (c : Nat) (V : List SV) (p : Po) (n : Nat) (hn : V.length = n) (cursor from_ num now : Int) (w : World) (hP : PoolV w a c V p) (e : Nat → Addr) (he : Env w e)
    (q : Po) (page : List ByteArray) (nx err : Int) (hA : pageA p cursor from_ num now = (q, page, nx, err)) :
    Calls Tryd.prog 13 #[.agg #[.slice a n c, .int .i64 p.next], .int .i64 cursor, .int .i64 from_, .int .i64 num, .int .i64 now] w (PageRF w q page nx err) := by
  unfold pageA at hA
  by_cases hc : checkB p now = true
  · rw [if_pos hc] at hA
    by_cases hb : num < 1 ∨ 10 < num
    · rw [if_pos hb] at hA
      cases hA
      exact (page_bad a c V p n hn cursor from_ num now w hP e he 0 1 (by omega) (by rw [findA, if_pos hc, if_pos hb])).mono fun _ _ h => h.fresh0
    · rw [if_neg hb] at hA
      cases hf : findN (hitB cursor from_ now) p.l with
      | none =>
        rw [hf] at hA
        cases hA
        exact (page_bad a c V p n hn cursor from_ num now w hP e he 0 2 (by omega) (by rw [findA, if_pos hc, if_neg hb, hf])).mono fun _ _ h => h.fresh0
      | some k =>
        rw [hf] at hA
        obtain ⟨hl, hh⟩ := findN_lt hf
        simp only [hitB, Bool.and_eq_true, decide_eq_true_eq] at hh
        have hF : findA p cursor from_ num now = ((k : Int), none) := by rw [findA, if_pos hc, if_neg hb, hf]
        obtain ⟨s, hs⟩ : ∃ s, p.l[k] = s := ⟨_, rfl⟩
        have hs2 : p.l[k]? = some s := by rw [List.getElem?_eq_getElem hl, hs]
        rw [hs] at hh
        dsimp only at hA
        rw [hs2] at hA
        dsimp only at hA
        obtain ⟨F, rfl⟩ := Int.eq_ofNat_of_zero_le hh.1.2
        obtain ⟨K, rfl⟩ := Int.eq_ofNat_of_zero_le (show 0 ≤ num by omega)
        have h3 := (checkB_small hc).1
        have hm : V.length = p.l.length := hP.mt.len
        have h := page_okF a c V p n hn cursor F K now w hP e he k hF (by rw [← hn, hm]; exact h3) (by omega) s hs2 (by omega) _ rfl
        obtain ⟨T, hT⟩ : ∃ T : Nat, (if s.items.length < F + K then s.items.length else F + K) = T := ⟨_, rfl⟩
        have hE : pageE s.items.length (F : Int) (K : Int) = (T : Int) := by unfold pageE; rw [← hT]; split <;> split <;> omega
        rw [hT] at h
        rw [hE, show ((T : Int) - (F : Int)).toNat = T - F by omega, Int.toNat_natCast] at hA
        have hTT : ((T : Int) = (s.items.length : Int)) = (T = s.items.length) := by rw [Int.natCast_inj]
        simp only [hTT] at hA
        cases hA
        exact h
  · rw [if_neg hc] at hA
    cases hA
    exact (page_bad a c V p n hn cursor from_ num now w hP e he 0 0 (by omega) (by rw [findA, if_neg hc])).mono fun _ _ h => h.fresh0
theorem page_any (a : Option Addr) (c : Nat) (V : List SV) (p : Po) (n : Nat) (hn : V.length = n) (cursor from_ num now : Int) (w : World) (hP : PoolV w a c V p) (e : Nat → Addr) (he : Env w e)
    (q : Po) (page : List ByteArray) (nx err : Int) (hA : pageA p cursor from_ num now = (q, page, nx, err)) :
    Calls Tryd.prog 13 #[.agg #[.slice a n c, .int .i64 p.next], .int .i64 cursor, .int .i64 from_, .int .i64 num, .int .i64 now] w (PageR w q page nx err) :=
  (page_fr a c V p n hn cursor from_ num now w hP e he q page nx err hA).mono fun _ _ h => h.plain
theorem NNew (w : World) : Calls Tryd.prog 21 #[] w fun r w' => r = .returned (.agg #[.slice none 0 0, .int .i64 1]) ∧ Keeps [] w w' := by
  have HB := Lib.hid (Blk.new w 24 #[.slice none 0 0, .int .i64 1])
  go_enter Tryd.func21, Tryd.ntmps21
  go_wp2
  exact bodyPost_ret (v := .agg #[.slice none 0 0, .int .i64 1]) (by have q0 := HB.out.cell 0; have q1 := HB.out.cell 1; simp [results, Tryd.results21, go_sem, q0, q1]) rfl ⟨rfl, (Keeps.refl [] w).alloc _⟩
end Go.Proofs.YtbcppmcjbcnlbaaDoor
