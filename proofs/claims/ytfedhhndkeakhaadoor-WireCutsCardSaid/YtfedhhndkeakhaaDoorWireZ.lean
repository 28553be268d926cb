/- The walks of the document's All, of Same. -/
import Derived.Test.YtfedhhndkeakhaaDoorWireY
import Derived.Deep.LoopGhost
namespace Go.Proofs.YtfedhhndkeakhaaDoor
open Go.RowKit Go.Shelf
attribute [local go_sem ↓] Go.wp_at_zero Go.wp_at_succ

theorem TakeA_next {s : ByteArray} {k : Int} {x : Int × Fr} (h : takeA s k = (x.2, x.1, none)) : TakeA s k = (x.2, x.1, 0) := by unfold TakeA; rw [h]; rfl
theorem TakeA_end {s : ByteArray} {k : Int} {f : Fr} {n : Int} {q : Nat} (h : takeA s k = (f, n, some q)) : TakeA s k = (f, n, toldN (some q)) := by unfold TakeA; rw [h]
theorem toldN_pos (E : Nat) (h : E < 5) : (toldN (some E) == 0) = false := by
  have : E = 0 ∨ E = 1 ∨ E = 2 ∨ E = 3 ∨ E = 4 := by omega
  rcases this with rfl | rfl | rfl | rfl | rfl <;> rfl
theorem toldN_more (E : Nat) (h : E < 5) : (toldN (some E) == 30) = (E == 2) := by
  have : E = 0 ∨ E = 1 ∨ E = 2 ∨ E = 3 ∨ E = 4 := by omega
  rcases this with rfl | rfl | rfl | rfl | rfl <;> rfl

set_option maxRecDepth 100000 in
set_option maxHeartbeats 1000000 in
theorem rall_any (s : ByteArray) (hs : s.size ≤ 1000000) (L : List Fr) (a q : Int) (hA : allA s = (L, a, q)) (w : World) :
    Calls Tryd.prog 24 #[.string s] w fun r w' => ∃ v, r = .returned (.tuple #[v, .int .i64 a, .int .i64 q]) ∧ w'.ownsRow w.heap.size 23 3 v L.length (L.flatMap Fr.cl) ∧ Below w.heap.size w w' := by
  obtain ⟨i0, hi, hz0, hz1, hz2⟩ := info_parts frame_info
  have HS := Lib.hid hs
  have hin := items_len s
  have HC0 := Lib.hid (items_chain s)
  have HEND := Lib.hid (endE_lt s)
  obtain ⟨It, hIt⟩ : ∃ It, items s = It := ⟨_, rfl⟩
  obtain ⟨E, hE⟩ : ∃ E, endE s = E := ⟨_, rfl⟩
  have HA2 : Hid (L = It.map (·.2) ∧ a = lastA It ∧ q = if E = 2 then 0 else toldN (some E)) := Lib.hid (by
    unfold allA at hA
    rw [hIt, hE] at hA
    exact ⟨(congrArg Prod.fst hA).symm, (congrArg (fun p => p.2.1) hA).symm, (congrArg (fun p => p.2.2) hA).symm⟩)
  rw [hIt, hE] at HC0
  rw [hIt] at hin
  rw [hE] at HEND
  have HIN : Hid (5 * It.length ≤ 1000000) := Lib.hid (by omega)
  clear hA hs hin hIt hE
  obtain ⟨f0, n0, q0, hT0⟩ : ∃ f0 n0 q0, TakeA s 0 = (f0, n0, q0) := ⟨_, _, _, rfl⟩
  have HT0 := Lib.hid hT0
  clear hT0
  go_enter Tryd.func24, Tryd.ntmps24
  go_wp2_with (fail)
  refine (rTake_any s (by have := HS.out; unfold maxLen; omega) 0 f0 n0 q0 HT0.out _).mono ?_
  rintro r w1 ⟨rfl, hk⟩
  have HK1 := Lib.hid hk
  unfold Fr.v
  clear hk
  go_wp2_with (fail)
  have hlt1 : w.heap.size ≤ w1.heap.size := HK1.out.size
  have hb0 : Below w.heap.size w (w1.alloc (.cells f0.cells 23)) := (HK1.out.below (Nat.le_refl _) (by simp)).alloc hlt1 _
  have hB0 : Blk (w1.alloc (.cells f0.cells 23)) w1.heap.size 23 f0.cells := Blk.new _ _ _
  obtain ⟨g7, hg7⟩ : ∃ g7, w1.heap.size = g7 := ⟨_, rfl⟩
  have hsz0 : g7 + 1 ≤ (w1.alloc (.cells f0.cells 23)).heap.size := by rw [← hg7]; simp
  obtain ⟨W1, hW1⟩ : ∃ W1, w1.alloc (.cells f0.cells 23) = W1 := ⟨_, rfl⟩
  have hW1' : w1.alloc (.cells #[.int .i64 f0.kind, .int .i64 f0.stream, .string f0.data] 23) = W1 := hW1
  rw [hW1] at hb0 hB0 hsz0
  rw [hW1', hg7]
  rw [hg7] at hB0 hlt1
  have HB0 := Lib.hid hb0
  have HBL := Lib.hid hB0
  have HSZ := Lib.hid hsz0
  clear hb0 hB0 hsz0 hW1 hW1' hg7 HK1
  go_loopg [5, 6, 8, 9] It.length (fun gh v at_ nx er wr => ∃ (pre suf : List (Int × Fr)) (f : Fr) (n q : Int), gh = suf.length ∧ Hid (pre ++ suf = It) ∧ Hid (wr.ownsRow (g7 + 1) 23 3 v pre.length (pre.flatMap fun x => x.2.cl)) ∧ at_ = .int .i64 (lastA pre) ∧ nx = .int .i64 n ∧ er = .int .i64 q ∧ Hid (Blk wr g7 23 f.cells) ∧ Hid (TakeA s (lastA pre) = (f, n, q)) ∧ Hid (Chain s (lastA pre) suf E) ∧ Hid (Below w.heap.size w wr) ∧ Hid (g7 + 1 ≤ wr.heap.size))
  case atStart => exact ⟨[], It, f0, n0, q0, rfl, Lib.hid rfl, Lib.hid (World.ownsRow_nil _ _ _ _), rfl, rfl, rfl, HBL, HT0, HC0, HB0, HSZ⟩
  case round =>
    obtain ⟨pre, suf, f, n, q', rfl, HPS, HR, rfl, rfl, rfl, HBF, HT, HC, HB, HS1⟩ := hrel
    cases suf with
    | nil =>
      obtain ⟨f', m, hch⟩ := HC.out
      have ht2 := TakeA_end hch
      rw [HT.out] at ht2
      have hq : q' = toldN (some E) := congrArg (fun p => p.2.2) ht2
      have hne : (q' == 0) = false := by rw [hq]; exact toldN_pos E HEND.out
      have hmo : (q' == 30) = (E == 2) := by rw [hq]; exact toldN_more E HEND.out
      obtain ⟨hL, ha, hqq⟩ := HA2.out
      have hpi : pre = It := by have := HPS.out; simpa using this
      have hrow : wr.ownsRow w.heap.size 23 3 u5 L.length (L.flatMap Fr.cl) := by
        have := ownsRow_down HR.out (b' := w.heap.size) (by omega)
        rw [hL, ← hpi, List.length_map, List.flatMap_map]
        exact this
      have HROW := Lib.hid hrow
      have HAA : Hid (lastA pre = a) := Lib.hid (by rw [ha, hpi])
      have HQQ := Lib.hid hqq
      have HQ1 := Lib.hid hq
      clear ht2 hq hL ha hqq hpi hrow
      by_cases hE : E = 2
      · have hm2 : (q' == 30) = true := by rw [hmo]; simp [hE]
        have HQ3 : Hid ((0 : Int) = q) := Lib.hid (by rw [HQQ.out, if_pos hE])
        clear hmo hE
        go_wp2
        refine bodyPost_ret (v := .tuple #[u5, .int .i64 (lastA pre), .int .i64 0]) (by simp [results, Tryd.results24, go_sem]) rfl ⟨u5, ?_, HROW.out, HB.out⟩
        rw [HAA.out, HQ3.out]
      · have hm2 : (q' == 30) = false := by rw [hmo]; simp [hE]
        have HQ3 : Hid (q' = q) := Lib.hid (by rw [HQQ.out, if_neg hE, HQ1.out])
        clear hmo hE
        go_wp2
        refine bodyPost_ret (v := .tuple #[u5, .int .i64 (lastA pre), .int .i64 q']) (by simp [results, Tryd.results24, go_sem]) rfl ⟨u5, ?_, HROW.out, HB.out⟩
        rw [HAA.out, HQ3.out]
    | cons x suf =>
      obtain ⟨hch, hC⟩ := HC.out
      have ht2 := TakeA_next hch
      rw [HT.out] at ht2
      obtain ⟨rfl, rfl, rfl⟩ : f = x.2 ∧ n = x.1 ∧ q' = 0 := ⟨congrArg Prod.fst ht2, congrArg (fun p => p.2.1) ht2, congrArg (fun p => p.2.2) ht2⟩
      have HC2 := Lib.hid hC
      have hpl : pre.length < 200000 := by
        have h1 := HIN.out
        rw [← HPS.out] at h1
        simp at h1; omega
      obtain ⟨c0, c1, c2⟩ := fr_res HBF.out
      have hsz := HS1.out
      obtain ⟨f', n', q'', hT'⟩ : ∃ f' n' q'', TakeA s x.1 = (f', n', q'') := ⟨_, _, _, rfl⟩
      have HT' := Lib.hid hT'
      clear hch hC ht2 hT'
      go_wp2_with (at_builtin; refine wpList_append_own _ rfl _ _ 25 rfl (g7 + 1) 23 i0 _ 3 32 Tryd.underlying25 hi hz0 hz1 hz2 rfl (by decide) _ _ _ rfl (HR.out.alloc _) ⟨wr.heap.size, 0, none⟩ 1 1 x.2.cl rfl rfl (World.news_of_block (heap_alloc_new _ _)) (by simp [Value.oneCell', Fr.cl]) (by unfold maxLen; omega) (by omega) (by simp; omega) ?_; intro v' w2 hown' hgrow hnil; clear hnil; have HOWN := Lib.hid hown'; have HGROW := Lib.hid hgrow; clear hown' hgrow)
      have hgrow : (wr.alloc (.cells x.2.cells 23)).grownBy w2 u5.ownBlock := HGROW.out
      have hrb : ∀ j, u5.ownBlock = some j → g7 + 1 ≤ j := fun j ej => by
        rcases HR.out.2 with ⟨rfl, _⟩ | ⟨g', cap, cur, rfl, hb, _, _⟩
        · simp [Value.ownBlock] at ej
        · obtain rfl : g' = j := by simpa [Value.ownBlock] using ej
          exact hb
      have hb2 : Blk w2 g7 23 x.2.cells := (hgrow.block g7 (by simp; omega) (fun ej => by have := hrb g7 ej.symm; omega)).trans (HBF.out.alloc _)
      have hbel : Below w.heap.size w w2 := HB.out.trans (((Below.refl w.heap.size wr).alloc (by omega) _).grown hgrow (by simp; omega) (fun j ej => by have := hrb j ej; omega))
      have hs2 : g7 + 1 ≤ w2.heap.size := by have := hgrow.size; simp at this; omega
      have hown : w2.ownsRow (g7 + 1) 23 3 v' (pre ++ [x]).length ((pre ++ [x]).flatMap fun x => x.2.cl) := by
        rw [List.length_append, List.length_singleton, List.flatMap_append]
        have e1 : [x].flatMap (fun x => x.2.cl) = x.2.cl := by simp
        rw [e1]
        exact HOWN.out
      have HO2 := Lib.hid hown
      have HB2 := Lib.hid hb2
      have HBE := Lib.hid hbel
      have HS2 := Lib.hid hs2
      clear hgrow hrb hb2 hbel hs2 hown HGROW HOWN c0 c1 c2 hsz hpl
      refine (rTake_any s (by have := HS.out; unfold maxLen; omega) x.1 f' n' q'' HT'.out _).mono ?_
      rintro r w3 ⟨rfl, hk⟩
      unfold Fr.v
      have hb3 := HB2.out.keeps hk (by simp)
      obtain ⟨c0, c1, c2⟩ := fr_res hb3
      have h0 := hb3.frozen 0
      have h1 := hb3.frozen 1
      have h2 := hb3.frozen 2
      have hbF : Blk (((w3.setCell ⟨g7, 0, none⟩ (.int .i64 f'.kind)).setCell ⟨g7, 1, none⟩ (.int .i64 f'.stream)).setCell ⟨g7, 2, none⟩ (.string f'.data)) g7 23 f'.cells := ((hb3.set_ 0 _).set_ 1 _).set_ 2 _
      have hbe3 : Below w.heap.size w (((w3.setCell ⟨g7, 0, none⟩ (.int .i64 f'.kind)).setCell ⟨g7, 1, none⟩ (.int .i64 f'.stream)).setCell ⟨g7, 2, none⟩ (.string f'.data)) :=
        (((HBE.out.trans (hk.below (by have := HS2.out; omega) (by simp))).setCell (p := ⟨g7, 0, none⟩) (by dsimp only; omega) _).setCell (p := ⟨g7, 1, none⟩) (by dsimp only; omega) _).setCell (p := ⟨g7, 2, none⟩) (by dsimp only; omega) _
      have hrow3 : (((w3.setCell ⟨g7, 0, none⟩ (.int .i64 f'.kind)).setCell ⟨g7, 1, none⟩ (.int .i64 f'.stream)).setCell ⟨g7, 2, none⟩ (.string f'.data)).ownsRow (g7 + 1) 23 3 v' (pre ++ [x]).length ((pre ++ [x]).flatMap fun x => x.2.cl) :=
        ownsRow_setCell_below (ownsRow_setCell_below (ownsRow_setCell_below ((Kept.of_keeps (B := 0) hk).ownsRow HO2.out) (a := ⟨g7, 0, none⟩) (Nat.lt_succ_self _) _) (a := ⟨g7, 1, none⟩) (Nat.lt_succ_self _) _) (a := ⟨g7, 2, none⟩) (Nat.lt_succ_self _) _
      have hs3 : g7 + 1 ≤ (((w3.setCell ⟨g7, 0, none⟩ (.int .i64 f'.kind)).setCell ⟨g7, 1, none⟩ (.int .i64 f'.stream)).setCell ⟨g7, 2, none⟩ (.string f'.data)).heap.size := by
        have := HS2.out
        have := hk.size
        simp [World.setCell]; omega
      have HBF3 := Lib.hid hbF
      have HBE3 := Lib.hid hbe3
      have HRW3 := Lib.hid hrow3
      have HSZ3 := Lib.hid hs3
      have HT3 : Hid (TakeA s (lastA (pre ++ [x])) = (f', n', q'')) := Lib.hid (by rw [lastA_snoc]; exact HT'.out)
      have HC3 : Hid (Chain s (lastA (pre ++ [x])) suf E) := Lib.hid (by rw [lastA_snoc]; exact HC2.out)
      have hl3 : Value.int .i64 x.1 = .int .i64 (lastA (pre ++ [x])) := by rw [lastA_snoc]
      have HL3 := Lib.hid hl3
      have HPS3 : Hid ((pre ++ [x]) ++ suf = It) := Lib.hid (by rw [← HPS.out]; simp)
      clear hk hb3 hbF hbe3 hrow3 hs3 hl3
      go_wp2
      go_roundg suf.length
      case rel => exact ⟨pre ++ [x], suf, f', n', q'', rfl, HPS3, HRW3, HL3.out, rfl, rfl, HBF3, HT3, HC3, HBE3, HSZ3⟩
      case measure => simp
end Go.Proofs.YtfedhhndkeakhaaDoor
