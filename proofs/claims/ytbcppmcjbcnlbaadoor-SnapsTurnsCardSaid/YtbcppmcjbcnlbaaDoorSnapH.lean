/- The walk of own. -/
import Derived.Test.YtbcppmcjbcnlbaaDoorSnapG
namespace Go.Proofs.YtbcppmcjbcnlbaaDoor
open Go.RowKit Go.Shelf
attribute [local go_sem ↓] Go.wp_at_zero Go.wp_at_succ

theorem Mt.take {w : World} : ∀ {V : List SV} {L : List Sn} (k : Nat), Mt w V L → Mt w (V.take k) (L.take k)
  | _, _, 0, _ => trivial
  | [], [], _ + 1, _ => trivial
  | _ :: _, _ :: _, k + 1, h => ⟨h.1, Mt.take k h.2⟩
  | [], _ :: _, _ + 1, h => h.elim
  | _ :: _, [], _ + 1, h => h.elim
theorem take_snoc {α : Type} {L : List α} {k : Nat} {s : α} (h : L[k]? = some s) : L.take (k + 1) = L.take k ++ [s] := by
  obtain ⟨hk, rfl⟩ := List.getElem?_eq_some_iff.1 h
  rw [List.take_succ_eq_append_getElem hk]

def FrV (B : Nat) (v : SV) : Prop := Fr B v.ia v.il
set_option maxRecDepth 100000 in
set_option maxHeartbeats 2000000 in
theorem own_fr (a : Option Addr) (c : Nat) (V : List SV) (L : List Sn) (n : Nat) (hn : V.length = n) (hs : n ≤ 1000) (w : World) (hR : RowIn w a V) (hM : Mt w V L) :
    Calls Tryd.prog 28 #[.slice a n c] w fun r w' => ∃ v V', r = .returned v ∧ SRow w' w.heap.size v V' ∧ Mt w' V' L ∧ Below w.heap.size w w' ∧ ∀ x ∈ V', FrV w.heap.size x := by
  have HR := Lib.hid hR
  have HM := Lib.hid hM
  have HN := Lib.hid hn
  clear hR hM hn
  go_enter Tryd.func28, Tryd.ntmps28
  go_wp2
  go_loopw [3, 8] (fun u i wr => ∃ (k : Nat) (V' : List SV), k ≤ n ∧ i = .int .i64 k ∧ V'.length = k ∧ Hid (SRow wr w.heap.size u V') ∧ Hid (Mt wr V' (L.take k)) ∧ Hid (Below w.heap.size w wr) ∧ Hid (∀ x ∈ V', FrV w.heap.size x)) (fun _ i _ => n - (intOf i).toNat)
  case atStart => exact ⟨0, [], Nat.zero_le _, rfl, rfl, Lib.hid (.inl ⟨rfl, rfl⟩), Lib.hid trivial, Lib.hid (Below.refl _ w), Lib.hid (fun x hx => by cases hx)⟩
  case round =>
    obtain ⟨k, V', hk, rfl, hvk, HS, HT, HB, HF⟩ := hrel
    have HVK := Lib.hid hvk
    clear hvk
    by_cases hlt : k < n
    · have hk1 : k < V.length := by rw [HN.out]; exact hlt
      have hkL : k < L.length := by rw [← HM.out.len]; exact hk1
      have hm := HM.out.get k hk1 hkL
      obtain ⟨g, off, cs0, fz0, rfl, hgb, hat⟩ := HR.out (by rintro rfl; simp at hk1)
      have hg := (Array.getElem?_eq_some_iff.1 hgb).1
      clear hgb
      obtain ⟨y, hy⟩ : ∃ y, V[k] = y := ⟨_, rfl⟩
      obtain ⟨s, hs2⟩ : ∃ s, L[k] = s := ⟨_, rfl⟩
      have q1 := hat k hk1
      rw [hy] at q1 hm
      rw [hs2] at hm
      obtain ⟨p0, p1, p2⟩ := q1
      have hkw := Keeps.of_below HB.out []
      rw [← hkw.cell (by exact hg) (by simp)] at p0 p1 p2
      have i1 : (0 : Int) ≤ (k : Int) := by omega
      have i2 : (k : Int) < (n : Int) := by omega
      have hb := Blk.new wr 39 #[.int .i64 y.cur, .slice y.ia y.il y.ic, .int .i64 y.used]
      have d1 := hb.cell 1
      have hk0 := (Keeps.refl [] wr).alloc (.cells #[.int .i64 y.cur, .slice y.ia y.il y.ic, .int .i64 y.used] 39)
      have HST := Lib.hid (hm.2.2.2.keeps (hkw.trans hk0))
      have HIL := Lib.hid hm.2.2.1
      have HM1 := Lib.hid hm
      have HLS : Hid (L[k]? = some s) := Lib.hid (by rw [List.getElem?_eq_getElem hkL, hs2])
      have HBX := Lib.hid hb
      have HK0 := Lib.hid hk0
      clear hat hy hs2 hm hkw hb hk0 hk1 hkL
      go_wp2_with (fail)
      refine (clone_fr y.ia y.ic s.items y.il HIL.out.symm _ HST.out).mono ?_
      rintro r w2 ⟨a', c', rfl, hst, hkc, hfr⟩
      have HFR := Lib.hid (hfr.down (B' := w.heap.size) (by have := HB.out.size; simp; omega))
      clear hfr
      have HST2 := Lib.hid hst
      have hb2 := HBX.out.keeps hkc (by simp)
      have e0 := hb2.cell 0
      have e1 := hb2.cell 1
      have e2 := hb2.cell 2
      have f1 := hb2.frozen 1
      have HB2 := Lib.hid (hb2.set_ 1 (.slice a' y.il c'))
      have HK2 := Lib.hid ((HK0.out.trans hkc).setCell (p := ⟨wr.heap.size, 1, none⟩) (.inr (Nat.le_refl _)) (.slice a' y.il c'))
      have HK3 := Lib.hid (Keeps.setCell (S := [wr.heap.size]) (Keeps.refl _ w2) (p := ⟨wr.heap.size, 1, none⟩) (.inl (by simp)) (.slice a' y.il c'))
      have HNS : Hid (NoStr w2 [wr.heap.size]) := Lib.hid (fun k hk cs fz h => by
        simp at hk; subst hk
        have h' : w2.heap[wr.heap.size]? = some (.cells #[.int .i64 y.cur, .slice y.ia y.il y.ic, .int .i64 y.used] 39 (0, 0)) := hb2
        rw [h'] at h
        injection h with h; injection h with _ h3 _
        exact absurd h3 (by decide))
      clear hst hkc hb2 d1 p0 p1 p2
      obtain ⟨x, hx⟩ : ∃ x : SV, x = ⟨y.cur, a', y.il, c', y.used⟩ := ⟨_, rfl⟩
      have hx1 : Mt1 (w2.setCell ⟨wr.heap.size, 1, none⟩ (.slice a' y.il c')) x s := by
        rw [hx]; exact ⟨HM1.out.1, HM1.out.2.1, HIL.out, HST2.out.keepsS HK3.out HNS.out⟩
      have hk4 := (Keeps.refl [] (w2.setCell ⟨wr.heap.size, 1, none⟩ (.slice a' y.il c'))).alloc (.cells x.arr 39)
      have hsz : w.heap.size ≤ wr.heap.size := HB.out.size
      have hsr := (HS.out.keeps HK2.out).keeps hk4
      obtain ⟨v9, w9, hrun, hs9, hk9⟩ := hsr.push (by rw [HVK.out]; omega) (by have := HK2.out.size; simp [World.setCell] at this ⊢; omega) _ x (Blk.new (w2.setCell ⟨wr.heap.size, 1, none⟩ (.slice a' y.il c')) 39 x.arr) 22
      have hm9 : Mt w9 (V' ++ [x]) (L.take (k + 1)) := by
        rw [take_snoc HLS.out]
        exact ((HT.out.keeps HK2.out).keeps hk4 |>.strK hk9).app ⟨(hx1.keeps hk4).strK hk9, trivial⟩
      have hb9 : Below w.heap.size w w9 := (HB.out.trans ((HK2.out.trans hk4).below hsz (by simp))).trans hk9.low
      rw [hx] at hrun
      simp only [SV.arr] at hrun
      rw [show (w2.setCell ⟨wr.heap.size, 1, none⟩ (.slice a' y.il c')).heap.size = w2.heap.size by simp [World.setCell]] at hrun
      have HS9 := Lib.hid hs9
      have HM9 := Lib.hid hm9
      have HB9 := Lib.hid hb9
      have g0 := HB2.out.cell 0
      have g1 := HB2.out.cell 1
      have g2 := HB2.out.cell 2
      simp only [List.setIfInBounds_toArray, List.set_cons_succ, List.set_cons_zero, List.getElem?_toArray, List.getElem?_cons_zero, List.getElem?_cons_succ] at g0 g1 g2
      have hlen9 : (V' ++ [x]).length = k + 1 := by rw [List.length_append, HVK.out]; rfl
      have HL9 := Lib.hid hlen9
      have HF9 : Hid (∀ z ∈ V' ++ [x], FrV w.heap.size z) := Lib.hid (fun z hz => by
        rcases List.mem_append.1 hz with hz | hz
        · exact HF.out z hz
        · obtain rfl := List.mem_singleton.1 hz
          rw [hx]; exact HFR.out)
      clear hx1 hk4 hsr hs9 hk9 hm9 hb9 hlen9 hx
      go_wp2_with (at_builtin; refine wpList_append_run _ rfl _ _ 22 rfl rfl rfl hrun ?_)
      go_roundw
      case rel => exact ⟨k + 1, V' ++ [x], by omega, by go_num, HL9.out, HS9, HM9, HB9, HF9⟩
      case measure => simp [intOf]; omega
    · obtain rfl : k = n := by omega
      have ht : L.take k = L := List.take_of_length_le (by rw [← HM.out.len, HN.out]; exact Nat.le_refl _)
      have hm := HT.out
      rw [ht] at hm
      have HM9 := Lib.hid hm
      clear ht hm
      go_wp2
      go_ret
      exact ⟨_, V', rfl, HS.out, HM9.out, HB.out, HF.out⟩
theorem own_any (a : Option Addr) (c : Nat) (V : List SV) (L : List Sn) (n : Nat) (hn : V.length = n) (hs : n ≤ 1000) (w : World) (hR : RowIn w a V) (hM : Mt w V L) :
    Calls Tryd.prog 28 #[.slice a n c] w fun r w' => ∃ v V', r = .returned v ∧ SRow w' w.heap.size v V' ∧ Mt w' V' L ∧ Below w.heap.size w w' :=
  (own_fr a c V L n hn hs w hR hM).mono fun _ _ ⟨v, V', h1, h2, h3, h4, _⟩ => ⟨v, V', h1, h2, h3, h4⟩
end Go.Proofs.YtbcppmcjbcnlbaaDoor
