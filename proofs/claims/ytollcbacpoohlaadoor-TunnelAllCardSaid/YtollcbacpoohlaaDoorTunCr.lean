/- The walk of TunnelCredit. Printed by gen_tunlaws.py. -/
import Derived.Test.YtollcbacpoohlaaDoorTunX
namespace Go.Proofs.YtollcbacpoohlaaDoor
open Go.RowKit
attribute [local go_sem ↓] Go.wp_at_zero Go.wp_at_succ

/-- What a call grants. -/
theorem act_grant (cap : Nat) (t : Tu) (x : Op1) {n : Nat} {q : List UInt8} {r : Int} {t' : Tu} (h : t.act cap x = ((n, q, r), t')) :
    (r = 0 → x.kind = 1 → x.side = 0 → 0 ≤ x.n ∧ x.n ≤ 1000000000000 ∧ (t'.a.g : Int) = t.a.g + x.n ∧ t'.b.g = t.b.g) ∧ (r = 0 → x.kind = 1 → x.side = 1 → 0 ≤ x.n ∧ x.n ≤ 1000000000000 ∧ t'.a.g = t.a.g ∧ (t'.b.g : Int) = t.b.g + x.n) ∧
    (r ≠ 0 ∨ x.kind ≠ 1 ∨ x.side < 0 ∨ 1 < x.side → t'.a.g = t.a.g ∧ t'.b.g = t.b.g) := by
  have hset : ∀ (side : Int) (y : Wy), y.g = (t.at_ side).g → (t.set side y).a.g = t.a.g ∧ (t.set side y).b.g = t.b.g := fun side y hy => by
    unfold Tu.at_ at hy
    unfold Tu.set
    split
    · rename_i hs; rw [if_pos hs] at hy; exact ⟨rfl, hy⟩
    · rename_i hs; rw [if_neg hs] at hy; exact ⟨hy, rfl⟩
  by_cases h1 : x.kind = 1
  · have h0 : ¬ x.kind = 0 := by omega
    unfold Tu.act at h
    rw [if_neg h0, if_pos h1] at h
    obtain ⟨⟨-, -, hr⟩, ht⟩ := act_eq h
    unfold Tu.grant at hr ht
    cases hs : sideB x.side with
    | false =>
      rw [hs, if_neg (by simp)] at hr ht
      have hs' : x.side ≠ 0 ∧ x.side ≠ 1 := by simpa [sideB] using hs
      dsimp only at hr ht
      subst ht
      exact ⟨fun h => absurd h (by omega), fun h => absurd h (by omega), fun _ => ⟨rfl, rfl⟩⟩
    | true =>
      rw [hs, if_pos rfl] at hr ht
      dsimp only at hr ht
      have hs' : x.side = 0 ∨ x.side = 1 := by simpa [sideB] using hs
      have hg : r = 0 → 0 ≤ x.n ∧ x.n ≤ 1000000000000 ∧ ((t.at_ x.side).grant x.n).g = (t.at_ x.side).g + x.n.toNat := fun h0 => by
        have hz : (grantA (t.at_ x.side).g (t.at_ x.side).s x.n).2.2 = 0 := hr.trans h0
        obtain ⟨g1, g2, _⟩ := grantA_ok hz
        exact ⟨g1, g2, by unfold Wy.grant; rw [if_pos hz]⟩
      have hn : r ≠ 0 → ((t.at_ x.side).grant x.n).g = (t.at_ x.side).g := fun h0 => by
        unfold Wy.grant; rw [if_neg (by rw [hr]; exact h0)]
      refine ⟨fun h0 _ hs0 => ?_, fun h0 _ hs0 => ?_, fun hc => ?_⟩
      · obtain ⟨g1, g2, g3⟩ := hg h0
        rw [hs0] at g3 ht
        subst ht
        have e1 : (t.set 0 ((t.at_ 0).grant x.n)).a.g = t.a.g + x.n.toNat := g3
        exact ⟨g1, g2, by rw [e1]; omega, rfl⟩
      · obtain ⟨g1, g2, g3⟩ := hg h0
        rw [hs0] at g3 ht
        subst ht
        have e1 : (t.set 1 ((t.at_ 1).grant x.n)).b.g = t.b.g + x.n.toNat := g3
        exact ⟨g1, g2, rfl, by rw [e1]; omega⟩
      · subst ht
        exact hset _ _ (hn (by omega))
  · have hk : t'.a.g = t.a.g ∧ t'.b.g = t.b.g := by
      unfold Tu.act at h
      split at h
      · obtain ⟨_, ht⟩ := act_eq h
        subst ht
        unfold Tu.event
        cases nxt t.st x.n with
        | none => exact ⟨rfl, rfl⟩
        | some u => dsimp only; split <;> exact ⟨rfl, rfl⟩
      split at h
      · obtain ⟨_, ht⟩ := act_eq h
        subst ht
        unfold Tu.feed; split
        · split
          · exact hset _ _ rfl
          · exact ⟨rfl, rfl⟩
        · exact ⟨rfl, rfl⟩
      split at h
      · obtain ⟨_, ht⟩ := act_eq h
        subst ht
        unfold Tu.move; split
        · split
          · split
            · exact ⟨rfl, rfl⟩
            · exact hset _ _ rfl
          · exact ⟨rfl, rfl⟩
        · exact ⟨rfl, rfl⟩
      split at h
      · obtain ⟨_, ht⟩ := act_eq h
        subst ht
        unfold Tu.drain; split
        · exact hset _ _ rfl
        · exact ⟨rfl, rfl⟩
      split at h
      · obtain ⟨_, ht⟩ := act_eq h
        subst ht
        exact ⟨rfl, rfl⟩
      · obtain ⟨_, ht⟩ := act_eq h
        subst ht
        exact ⟨rfl, rfl⟩
    exact ⟨fun _ h => absurd h h1, fun _ h => absurd h h1, fun _ => hk⟩

theorem made_up (cap : Nat) (w : World) (hE : Et w) (hc1 : 1 ≤ cap) (hc2 : cap ≤ 4096) :
    Calls Tryd.prog 10 #[.int .i64 cap, .slice none 0 0] w fun e w' => ∃ L : TL, e = .returned (.tuple #[.pointer (some ⟨L.b, 0, none⟩), .bool true]) ∧ TuAt w' L cap upT ∧ Keeps [] w w' ∧ ∀ k ∈ L.l, w.heap.size ≤ k :=
  made_ok cap none 0 [] w hE hc1 hc2 ⟨by simp, by simp, fun h => by simp at h⟩

set_option maxRecDepth 100000 in
theorem credit_bad (n : Int) (a : Option Addr) (xs : List Op1) (c : Nat) (w : World) (hE : Et w) (h : n < 1 ∨ 4096 < n) (hx : OpsArg w a xs) :
    Calls Tryd.prog 6 #[.int .i64 n, .slice a xs.length c] w fun e w' => e = .returned (.bool true) ∧ Keeps [] w w' := by
  have HE0 := Lib.hid hE
  have H := Lib.hid h
  have HX0 := Lib.hid hx
  clear hE h hx
  go_enter Tryd.func6, Tryd.ntmps6
  go_wp2_with (fail)
  refine (shown_any _ HE0.out).mono ?_
  rintro e w1 ⟨rfl, hk⟩
  have HK1 := Lib.hid hk
  have HE1 := Lib.hid (HE0.out.keeps hk (by simp))
  have HX1 := Lib.hid (HX0.out.keeps hk (by simp))
  clear hk
  go_wp2_with (fail)
  refine (cutops_g _ a c xs HX1.out).mono ?_
  rintro e w2 ⟨a', c', g, rfl, -, -, hk⟩
  have HK2 := Lib.hid (HK1.out.trans hk)
  have HE2 := Lib.hid (HE1.out.keeps hk (by simp))
  clear hk
  go_wp2_with (fail)
  refine (made_bad n (.slice none 0 0) _ H.out).mono ?_
  rintro e w3 ⟨rfl, hk⟩
  have HK3 := Lib.hid (HK2.out.trans hk)
  have HE3 := Lib.hid (HE2.out.keeps hk (by simp))
  clear hk
  go_wp2
  go_ret
  exact ⟨rfl, HK3.out⟩

set_option maxRecDepth 100000 in
set_option maxHeartbeats 8000000 in
theorem credit_good (cap : Nat) (a : Option Addr) (c : Nat) (xs : List Op1) (w : World) (hE : Et w) (h1 : 1 ≤ cap) (h2 : cap ≤ 4096) (hx : OpsArg w a xs) :
    Calls Tryd.prog 6 #[.int .i64 cap, .slice a xs.length c] w fun e w' => e = .returned (.bool true) ∧ Keeps [] w w' := by
  have HE0 := Lib.hid hE
  have HX0 := Lib.hid hx
  clear hE hx
  have hyl := cutOps_length xs
  have hys := cutOps_size xs
  obtain ⟨ys, hye⟩ : ∃ ys, cutOps xs = ys := ⟨_, rfl⟩
  rw [hye] at hyl hys
  have HYS := Lib.hid hys
  have HYE := Lib.hid hye
  clear hys hye

  go_enter Tryd.func6, Tryd.ntmps6
  go_wp2_with (fail)
  refine (shown_any _ HE0.out).mono ?_
  rintro e w1 ⟨rfl, hk⟩
  have HK1 := Lib.hid hk
  have HE1 := Lib.hid (HE0.out.keeps hk (by simp))
  have HX1 := Lib.hid (HX0.out.keeps hk (by simp))
  clear hk
  go_wp2_with (fail)
  refine (cutops_g _ a c xs HX1.out).mono ?_
  rintro e w2 ⟨a', c', g, rfl, hin, hgl, hk⟩
  have HK2 := Lib.hid (HK1.out.trans hk)
  have HE2 := Lib.hid (HE1.out.keeps hk (by simp))
  have hye := HYE.out
  rw [hye] at hin
  rw [hye]
  clear hye
  have HIN := Lib.hid hin
  have HGB : Hid (g < w2.heap.size ∨ ys = []) := Lib.hid (by
    rcases Nat.eq_zero_or_pos ys.length with h0 | h0
    · exact .inr (List.eq_nil_of_length_eq_zero h0)
    · exact .inl (hin h0).2.1)
  clear hk hin hgl
  go_wp2_with (fail)
  refine (made_up cap _ HE2.out h1 h2).mono ?_
  rintro e w3 ⟨L, rfl, ht, hk, hlo⟩
  have HK3 := Lib.hid (HK2.out.trans hk)
  have HE3 := Lib.hid (HE2.out.keeps hk (by simp))
  have HT3 := Lib.hid ht
  have HLO : Hid (∀ k ∈ L.l, w.heap.size ≤ k) := (fun k hk => Nat.le_trans HK2.out.size (hlo k hk) : ∀ k ∈ L.l, w.heap.size ≤ k)
  have hgn : g ∉ L.l ∨ ys = [] := by
    rcases HGB.out with h | h
    · exact .inl (fun hm => by have := hlo g hm; omega)
    · exact .inr h
  have HIN3 := Lib.hid (HIN.out.keeps hk (by simp))
  have HGN := Lib.hid hgn
  have hgs : g < w3.heap.size ∨ ys = [] := HGB.out.imp (fun h => by have := hk.size; omega) id
  have HGS := Lib.hid hgs
  clear ht hk hlo hgn hgs
  obtain ⟨W4, hW4⟩ : ∃ W4, w3.alloc (.cells #[.int .i64 10, .int .i64 10] 48) = W4 := ⟨_, rfl⟩
  obtain ⟨gb, hgb⟩ : ∃ gb, w3.heap.size = gb := ⟨_, rfl⟩
  have hG : Blk W4 gb 48 #[.int .i64 10, .int .i64 10] := by rw [← hW4, ← hgb]; exact Blk.new w3 _ _
  have hka : Keeps [] w3 W4 := by rw [← hW4]; exact (Keeps.refl [] w3).alloc _
  have HG := Lib.hid hG
  have HT4 := Lib.hid (HT3.out.keep hka)
  have HE4 := Lib.hid (HE3.out.keeps hka (by simp))
  have HIN4 := Lib.hid (HIN3.out.keeps hka (by simp))
  have HK4 := Lib.hid (HK3.out.trans hka)
  have HGB4 : Hid (gb ∉ L.l) := (fun hm => by have := HT3.out.lt gb hm; omega : gb ∉ L.l)
  have HGG : Hid (g ≠ gb ∨ ys = []) := Lib.hid (HGS.out.imp (fun h => by omega) id)
  have HBW : Hid (w.heap.size ≤ gb) := (by have := HK3.out.size; omega : w.heap.size ≤ gb)
  have HGE : Hid (0 ≠ gb) := (by have := World.block_lt_of_cell? w3 _ HE3.out; dsimp only at this; omega : 0 ≠ gb)
  have HW4 := Lib.hid hW4
  have HGBE := Lib.hid hgb
  clear hW4 hG hka hgb
  go_wp2
  rw [HGBE.out, HW4.out]
  go_loopw [9] (fun i wr => ∃ k : Nat, ∃ t : Tu, i = .int .i64 k ∧ k ≤ ys.length ∧ Hid (TuAt wr L cap t) ∧ Hid (Blk wr gb 48 #[.int .i64 t.a.g, .int .i64 t.b.g]) ∧ Hid (Keeps (gb :: L.l) W4 wr)) (fun i _ => ys.length - (intOf i).toNat)
  case atStart => exact ⟨0, upT, rfl, Nat.zero_le _, HT4, HG, (Keeps.refl _ _ : Keeps (gb :: L.l) W4 W4)⟩
  case round =>
    obtain ⟨k, t, rfl, hk, HT, HB, HK⟩ := hrel
    by_cases hlt : k < ys.length
    · have hyn : ys ≠ [] := by rintro rfl; simp at hlt
      have hgno : g ∉ gb :: L.l := fun hm => by
        rcases List.mem_cons.1 hm with hm | hm
        · exact (HGG.out.resolve_right hyn) hm
        · exact (HGN.out.resolve_right hyn) hm
      have hin := HIN4.out.keeps HK.out hgno
      obtain ⟨x, rfl, hx, d0, d1, d2, d3⟩ := hin.at_ hlt
      have i1 : (0 : Int) ≤ (k : Int) := by omega
      have i2 : (k : Int) < (ys.length : Int) := by omega
      obtain ⟨hk', hx'⟩ := List.getElem?_eq_some_iff.1 hx
      have hsz : x.s.size ≤ 50 := HYS.out x (by rw [← hx']; exact List.getElem_mem _)
      obtain ⟨n, q, r, t', hact⟩ : ∃ n q r t', t.act cap x = ((n, q, r), t') := ⟨_, _, _, _, rfl⟩
      have hag := act_grant cap t x hact
      have hEr : Et wr := HE4.out.keeps HK.out (fun hm => by
        rcases List.mem_cons.1 hm with hm | hm
        · exact HGE.out hm
        · exact HT4.out.nz hm)
      have hd := do_any L cap t t' x (by omega) n q r hact wr hEr HT.out
      have HD := Lib.hid hd
      have HAG := Lib.hid hag
      have hgl : g ∉ L.l := HGN.out.resolve_right hyn
      have hgg : g ≠ gb := HGG.out.resolve_right hyn
      have HGL := Lib.hid hgl
      clear hin hx hk' hx' hact hag hd hsz hyn hgno hEr
      go_wp2_with (fail)
      refine HD.out.mono ?_
      rintro e w7 ⟨rfl, ht, hk7⟩
      have f0 := hk7.cell (p := ⟨g, k * 4, none⟩) (World.block_lt_of_cell? wr _ d0) HGL.out
      have f1 := hk7.cell (p := ⟨g, k * 4 + 1, none⟩) (World.block_lt_of_cell? wr _ d1) HGL.out
      have f2 := hk7.cell (p := ⟨g, k * 4 + 2, none⟩) (World.block_lt_of_cell? wr _ d2) HGL.out
      rw [d0] at f0
      rw [d1] at f1
      rw [d2] at f2
      obtain ⟨W8, hW8⟩ : ∃ W8, w7.alloc (.cells #[.int .i64 n, .string (str q), .int .i64 r] 32) = W8 := ⟨_, rfl⟩
      have hka : Keeps [] w7 W8 := by rw [← hW8]; exact (Keeps.refl [] w7).alloc _
      have g0 := hka.cells _ _ f0
      have g1 := hka.cells _ _ f1
      have g2 := hka.cells _ _ f2
      have hSd : Blk W8 w7.heap.size 32 #[.int .i64 n, .string (str q), .int .i64 r] := by rw [← hW8]; exact Blk.new w7 _ _
      have z2 := hSd.cell 2
      simp only [List.getElem?_toArray, List.getElem?_cons_zero, List.getElem?_cons_succ] at z2
      have HT8 := Lib.hid (TuAt.keep ht hka)
      have HB8 := Lib.hid ((HB.out.keeps hk7 HGB4.out).keeps hka (by simp))
      have HK8 := Lib.hid ((HK.out.trans (hk7.mono (by simp +contextual))).trans (hka.mono (by simp)))
      have HW8 := Lib.hid hW8
      have HG0 := Lib.hid g0
      have HG1 := Lib.hid g1
      have HG2 := Lib.hid g2
      have a0 := (Keeps.refl [] w7).cellsA ⟨g, k * 4, none⟩ _ (.cells #[.int .i64 n, .string (str q), .int .i64 r] 32) f0
      have a1 := (Keeps.refl [] w7).cellsA ⟨g, k * 4 + 1, none⟩ _ (.cells #[.int .i64 n, .string (str q), .int .i64 r] 32) f1
      clear ht hk7 hka hSd hW8 d0 d1 d2 d3 g0 g1 g2 z2 f0 f1 f2
      by_cases hr : r = 0
      rotate_left
      · have hn1 : (r == 0) = false := by simpa using hr
        obtain ⟨ea, eb⟩ := HAG.out.2.2 (.inl hr)
        obtain ⟨W9, hW9⟩ : ∃ W9, W8 = W9 := ⟨_, rfl⟩
        have HT9 : Hid (TuAt W9 L cap t') := hW9 ▸ HT8
        have HB9 : Hid (Blk W9 gb 48 #[.int .i64 t'.a.g, .int .i64 t'.b.g]) := Lib.hid (by rw [← hW9, ea, eb]; exact HB8.out)
        have HK9 : Hid (Keeps (gb :: L.l) W4 W9) := hW9 ▸ HK8
        have HW9 := Lib.hid (HW8.out.trans hW9)
        clear ea eb hW9 HT8 HB8 HK8 HAG hr
        go_wp2_with (fail)
        rw [HW9.out]
        refine wp_loop_rounds 3 ?_
        rw [rounds_succ]
        have c0 : W9.cell? ⟨gb, 0, none⟩ = some (.int .i64 t'.a.g) := HB9.out.cell 0
        have c1 : W9.cell? ⟨gb, 1, none⟩ = some (.int .i64 t'.b.g) := HB9.out.cell 1
        have ka : ¬ t'.a.g < t'.a.s := by have := okC_le HT9.out.a.ok.c; omega
        have kb : ¬ t'.b.g < t'.b.s := by have := okC_le HT9.out.b.ok.c; omega
        go_wp2_with (fail)
        refine (uCounts_any L cap t' 0 t'.a.f t'.a.s t'.a.d rfl _ HT9.out).mono ?_
        rintro e w10 ⟨rfl, hk⟩
        have e0 := hk.cells _ _ c0
        have e1 := hk.cells _ _ c1
        have HT10 := Lib.hid (HT9.out.keep hk)
        have HB10 := Lib.hid (HB9.out.keeps hk (by simp))
        have HK10 := Lib.hid (HK9.out.trans (hk.mono (by simp)))
        clear hk c0 c1
        go_wp2_with (fail)
        rw [rounds_succ]
        go_wp2_with (fail)
        refine (uCounts_any L cap t' 1 t'.b.f t'.b.s t'.b.d rfl _ HT10.out).mono ?_
        rintro e w11 ⟨rfl, hk⟩
        have q0 := hk.cells _ _ e0
        have q1 := hk.cells _ _ e1
        have HT11 := Lib.hid (HT10.out.keep hk)
        have HB11 := Lib.hid (HB10.out.keeps hk (by simp))
        have HK11 := Lib.hid (HK10.out.trans (hk.mono (by simp)))
        clear hk e0 e1
        go_wp2_with (fail)
        rw [rounds_succ]
        go_wp2_with (fail)
        go_roundw
        case rel => exact ⟨k + 1, t', by go_num, by omega, HT11, HB11, HK11⟩
        case measure => simp [intOf]; omega
      have hp0 : (r == 0) = true := by simpa using hr
      have HR := Lib.hid hr
      clear hr
      by_cases hkd : x.kind = 1
      rotate_left
      · have hn1 : (x.kind == 1) = false := by simpa using hkd
        obtain ⟨ea, eb⟩ := HAG.out.2.2 (.inr (.inl hkd))
        obtain ⟨W9, hW9⟩ : ∃ W9, W8 = W9 := ⟨_, rfl⟩
        have HT9 : Hid (TuAt W9 L cap t') := hW9 ▸ HT8
        have HB9 : Hid (Blk W9 gb 48 #[.int .i64 t'.a.g, .int .i64 t'.b.g]) := Lib.hid (by rw [← hW9, ea, eb]; exact HB8.out)
        have HK9 : Hid (Keeps (gb :: L.l) W4 W9) := hW9 ▸ HK8
        have HW9 := Lib.hid (HW8.out.trans hW9)
        clear ea eb hW9 HT8 HB8 HK8 HAG hkd
        go_wp2_with (fail)
        rw [HW9.out]
        refine wp_loop_rounds 3 ?_
        rw [rounds_succ]
        have c0 : W9.cell? ⟨gb, 0, none⟩ = some (.int .i64 t'.a.g) := HB9.out.cell 0
        have c1 : W9.cell? ⟨gb, 1, none⟩ = some (.int .i64 t'.b.g) := HB9.out.cell 1
        have ka : ¬ t'.a.g < t'.a.s := by have := okC_le HT9.out.a.ok.c; omega
        have kb : ¬ t'.b.g < t'.b.s := by have := okC_le HT9.out.b.ok.c; omega
        go_wp2_with (fail)
        refine (uCounts_any L cap t' 0 t'.a.f t'.a.s t'.a.d rfl _ HT9.out).mono ?_
        rintro e w10 ⟨rfl, hk⟩
        have e0 := hk.cells _ _ c0
        have e1 := hk.cells _ _ c1
        have HT10 := Lib.hid (HT9.out.keep hk)
        have HB10 := Lib.hid (HB9.out.keeps hk (by simp))
        have HK10 := Lib.hid (HK9.out.trans (hk.mono (by simp)))
        clear hk c0 c1
        go_wp2_with (fail)
        rw [rounds_succ]
        go_wp2_with (fail)
        refine (uCounts_any L cap t' 1 t'.b.f t'.b.s t'.b.d rfl _ HT10.out).mono ?_
        rintro e w11 ⟨rfl, hk⟩
        have q0 := hk.cells _ _ e0
        have q1 := hk.cells _ _ e1
        have HT11 := Lib.hid (HT10.out.keep hk)
        have HB11 := Lib.hid (HB10.out.keeps hk (by simp))
        have HK11 := Lib.hid (HK10.out.trans (hk.mono (by simp)))
        clear hk e0 e1
        go_wp2_with (fail)
        rw [rounds_succ]
        go_wp2_with (fail)
        go_roundw
        case rel => exact ⟨k + 1, t', by go_num, by omega, HT11, HB11, HK11⟩
        case measure => simp [intOf]; omega
      have hp1 : (x.kind == 1) = true := by simpa using hkd
      have HKD := Lib.hid hkd
      clear hkd
      by_cases hs0 : 0 ≤ x.side
      rotate_left
      · have hn1 : ¬ (0 : Int) ≤ x.side := hs0
        obtain ⟨ea, eb⟩ := HAG.out.2.2 (.inr (.inr (.inl (by omega))))
        obtain ⟨W9, hW9⟩ : ∃ W9, W8 = W9 := ⟨_, rfl⟩
        have HT9 : Hid (TuAt W9 L cap t') := hW9 ▸ HT8
        have HB9 : Hid (Blk W9 gb 48 #[.int .i64 t'.a.g, .int .i64 t'.b.g]) := Lib.hid (by rw [← hW9, ea, eb]; exact HB8.out)
        have HK9 : Hid (Keeps (gb :: L.l) W4 W9) := hW9 ▸ HK8
        have HW9 := Lib.hid (HW8.out.trans hW9)
        clear ea eb hW9 HT8 HB8 HK8 HAG hs0
        go_wp2_with (fail)
        rw [HW9.out]
        refine wp_loop_rounds 3 ?_
        rw [rounds_succ]
        have c0 : W9.cell? ⟨gb, 0, none⟩ = some (.int .i64 t'.a.g) := HB9.out.cell 0
        have c1 : W9.cell? ⟨gb, 1, none⟩ = some (.int .i64 t'.b.g) := HB9.out.cell 1
        have ka : ¬ t'.a.g < t'.a.s := by have := okC_le HT9.out.a.ok.c; omega
        have kb : ¬ t'.b.g < t'.b.s := by have := okC_le HT9.out.b.ok.c; omega
        go_wp2_with (fail)
        refine (uCounts_any L cap t' 0 t'.a.f t'.a.s t'.a.d rfl _ HT9.out).mono ?_
        rintro e w10 ⟨rfl, hk⟩
        have e0 := hk.cells _ _ c0
        have e1 := hk.cells _ _ c1
        have HT10 := Lib.hid (HT9.out.keep hk)
        have HB10 := Lib.hid (HB9.out.keeps hk (by simp))
        have HK10 := Lib.hid (HK9.out.trans (hk.mono (by simp)))
        clear hk c0 c1
        go_wp2_with (fail)
        rw [rounds_succ]
        go_wp2_with (fail)
        refine (uCounts_any L cap t' 1 t'.b.f t'.b.s t'.b.d rfl _ HT10.out).mono ?_
        rintro e w11 ⟨rfl, hk⟩
        have q0 := hk.cells _ _ e0
        have q1 := hk.cells _ _ e1
        have HT11 := Lib.hid (HT10.out.keep hk)
        have HB11 := Lib.hid (HB10.out.keeps hk (by simp))
        have HK11 := Lib.hid (HK10.out.trans (hk.mono (by simp)))
        clear hk e0 e1
        go_wp2_with (fail)
        rw [rounds_succ]
        go_wp2_with (fail)
        go_roundw
        case rel => exact ⟨k + 1, t', by go_num, by omega, HT11, HB11, HK11⟩
        case measure => simp [intOf]; omega
      by_cases hs1 : x.side ≤ 1
      rotate_left
      · have hn1 : ¬ x.side ≤ 1 := hs1
        obtain ⟨ea, eb⟩ := HAG.out.2.2 (.inr (.inr (.inr (by omega))))
        obtain ⟨W9, hW9⟩ : ∃ W9, W8 = W9 := ⟨_, rfl⟩
        have HT9 : Hid (TuAt W9 L cap t') := hW9 ▸ HT8
        have HB9 : Hid (Blk W9 gb 48 #[.int .i64 t'.a.g, .int .i64 t'.b.g]) := Lib.hid (by rw [← hW9, ea, eb]; exact HB8.out)
        have HK9 : Hid (Keeps (gb :: L.l) W4 W9) := hW9 ▸ HK8
        have HW9 := Lib.hid (HW8.out.trans hW9)
        clear ea eb hW9 HT8 HB8 HK8 HAG hs1
        go_wp2_with (fail)
        rw [HW9.out]
        refine wp_loop_rounds 3 ?_
        rw [rounds_succ]
        have c0 : W9.cell? ⟨gb, 0, none⟩ = some (.int .i64 t'.a.g) := HB9.out.cell 0
        have c1 : W9.cell? ⟨gb, 1, none⟩ = some (.int .i64 t'.b.g) := HB9.out.cell 1
        have ka : ¬ t'.a.g < t'.a.s := by have := okC_le HT9.out.a.ok.c; omega
        have kb : ¬ t'.b.g < t'.b.s := by have := okC_le HT9.out.b.ok.c; omega
        go_wp2_with (fail)
        refine (uCounts_any L cap t' 0 t'.a.f t'.a.s t'.a.d rfl _ HT9.out).mono ?_
        rintro e w10 ⟨rfl, hk⟩
        have e0 := hk.cells _ _ c0
        have e1 := hk.cells _ _ c1
        have HT10 := Lib.hid (HT9.out.keep hk)
        have HB10 := Lib.hid (HB9.out.keeps hk (by simp))
        have HK10 := Lib.hid (HK9.out.trans (hk.mono (by simp)))
        clear hk c0 c1
        go_wp2_with (fail)
        rw [rounds_succ]
        go_wp2_with (fail)
        refine (uCounts_any L cap t' 1 t'.b.f t'.b.s t'.b.d rfl _ HT10.out).mono ?_
        rintro e w11 ⟨rfl, hk⟩
        have q0 := hk.cells _ _ e0
        have q1 := hk.cells _ _ e1
        have HT11 := Lib.hid (HT10.out.keep hk)
        have HB11 := Lib.hid (HB10.out.keeps hk (by simp))
        have HK11 := Lib.hid (HK10.out.trans (hk.mono (by simp)))
        clear hk e0 e1
        go_wp2_with (fail)
        rw [rounds_succ]
        go_wp2_with (fail)
        go_roundw
        case rel => exact ⟨k + 1, t', by go_num, by omega, HT11, HB11, HK11⟩
        case measure => simp [intOf]; omega
      have hside : x.side = 0 ∨ x.side = 1 := by omega
      rcases hside with hsd | hsd
      · rw [hsd] at a1
        obtain ⟨n0', n1, ea, eb⟩ := HAG.out.1 HR.out HKD.out hsd
        have HEA := Lib.hid ea
        have HEB := Lib.hid eb
        have hgg2 : (t.a.g : Int) ≤ 1000000000000 := by have := (okC_le HT8.out.a.ok.c).2.1; omega
        clear ea eb hs0 hs1 hsd
        go_wp2_with (fail)
        rw [HW8.out]
        have g0 := HG0.out
        have g2 := HG2.out
        have c0 := HB8.out.cell 0
        have cf := HB8.out.frozen 0
        simp only [List.getElem?_toArray, List.getElem?_cons_zero] at c0
        go_region
        obtain ⟨W9, hW9⟩ : ∃ W9, (W8.setCell ⟨gb, 0, none⟩ (.int .i64 ((t.a.g : Int) + x.n))).drew = W9 := ⟨_, rfl⟩
        have hst : Keeps [gb] W8 W9 := by rw [← hW9]; exact ((Keeps.refl [gb] W8).setCell (p := ⟨gb, 0, none⟩) (.inl (by simp)) _).drew
        have HT9 := Lib.hid (HT8.out.keeps hst (fun k hk hm => by simp only [List.mem_singleton] at hm; subst hm; exact HGB4.out hk))
        have hb9 : Blk W9 gb 48 #[.int .i64 ((t.a.g : Int) + x.n), .int .i64 t.b.g] := by rw [← hW9]; exact Blk.drew (by simpa using HB8.out.set_ 0 (.int .i64 ((t.a.g : Int) + x.n)))
        rw [← HEA.out, ← HEB.out] at hb9
        have HB9 := Lib.hid hb9
        have HK9 := Lib.hid (HK8.out.trans (hst.mono (by simp)))
        have HW9 := Lib.hid hW9
        clear hst hb9 hW9 c0 cf g0 g2 HT8 HB8 HK8 HAG n0' n1 hgg2
        go_wp2_with (fail)
        rw [HW9.out]
        refine wp_loop_rounds 3 ?_
        rw [rounds_succ]
        have c0 : W9.cell? ⟨gb, 0, none⟩ = some (.int .i64 t'.a.g) := HB9.out.cell 0
        have c1 : W9.cell? ⟨gb, 1, none⟩ = some (.int .i64 t'.b.g) := HB9.out.cell 1
        have ka : ¬ t'.a.g < t'.a.s := by have := okC_le HT9.out.a.ok.c; omega
        have kb : ¬ t'.b.g < t'.b.s := by have := okC_le HT9.out.b.ok.c; omega
        go_wp2_with (fail)
        refine (uCounts_any L cap t' 0 t'.a.f t'.a.s t'.a.d rfl _ HT9.out).mono ?_
        rintro e w10 ⟨rfl, hk⟩
        have e0 := hk.cells _ _ c0
        have e1 := hk.cells _ _ c1
        have HT10 := Lib.hid (HT9.out.keep hk)
        have HB10 := Lib.hid (HB9.out.keeps hk (by simp))
        have HK10 := Lib.hid (HK9.out.trans (hk.mono (by simp)))
        clear hk c0 c1
        go_wp2_with (fail)
        rw [rounds_succ]
        go_wp2_with (fail)
        refine (uCounts_any L cap t' 1 t'.b.f t'.b.s t'.b.d rfl _ HT10.out).mono ?_
        rintro e w11 ⟨rfl, hk⟩
        have q0 := hk.cells _ _ e0
        have q1 := hk.cells _ _ e1
        have HT11 := Lib.hid (HT10.out.keep hk)
        have HB11 := Lib.hid (HB10.out.keeps hk (by simp))
        have HK11 := Lib.hid (HK10.out.trans (hk.mono (by simp)))
        clear hk e0 e1
        go_wp2_with (fail)
        rw [rounds_succ]
        go_wp2_with (fail)
        go_roundw
        case rel => exact ⟨k + 1, t', by go_num, by omega, HT11, HB11, HK11⟩
        case measure => simp [intOf]; omega
      · rw [hsd] at a1
        obtain ⟨n0', n1, ea, eb⟩ := HAG.out.2.1 HR.out HKD.out hsd
        have HEA := Lib.hid ea
        have HEB := Lib.hid eb
        have hgg2 : (t.b.g : Int) ≤ 1000000000000 := by have := (okC_le HT8.out.b.ok.c).2.1; omega
        clear ea eb hs0 hs1 hsd
        go_wp2_with (fail)
        rw [HW8.out]
        have g0 := HG0.out
        have g2 := HG2.out
        have c0 := HB8.out.cell 1
        have cf := HB8.out.frozen 1
        simp only [List.getElem?_toArray, List.getElem?_cons_succ, List.getElem?_cons_zero] at c0
        go_region
        obtain ⟨W9, hW9⟩ : ∃ W9, (W8.setCell ⟨gb, 1, none⟩ (.int .i64 ((t.b.g : Int) + x.n))).drew = W9 := ⟨_, rfl⟩
        have hst : Keeps [gb] W8 W9 := by rw [← hW9]; exact ((Keeps.refl [gb] W8).setCell (p := ⟨gb, 1, none⟩) (.inl (by simp)) _).drew
        have HT9 := Lib.hid (HT8.out.keeps hst (fun k hk hm => by simp only [List.mem_singleton] at hm; subst hm; exact HGB4.out hk))
        have hb9 : Blk W9 gb 48 #[.int .i64 t.a.g, .int .i64 ((t.b.g : Int) + x.n)] := by rw [← hW9]; exact Blk.drew (by simpa using HB8.out.set_ 1 (.int .i64 ((t.b.g : Int) + x.n)))
        rw [← HEB.out, ← HEA.out] at hb9
        have HB9 := Lib.hid hb9
        have HK9 := Lib.hid (HK8.out.trans (hst.mono (by simp)))
        have HW9 := Lib.hid hW9
        clear hst hb9 hW9 c0 cf g0 g2 HT8 HB8 HK8 HAG n0' n1 hgg2
        go_wp2_with (fail)
        rw [HW9.out]
        refine wp_loop_rounds 3 ?_
        rw [rounds_succ]
        have c0 : W9.cell? ⟨gb, 0, none⟩ = some (.int .i64 t'.a.g) := HB9.out.cell 0
        have c1 : W9.cell? ⟨gb, 1, none⟩ = some (.int .i64 t'.b.g) := HB9.out.cell 1
        have ka : ¬ t'.a.g < t'.a.s := by have := okC_le HT9.out.a.ok.c; omega
        have kb : ¬ t'.b.g < t'.b.s := by have := okC_le HT9.out.b.ok.c; omega
        go_wp2_with (fail)
        refine (uCounts_any L cap t' 0 t'.a.f t'.a.s t'.a.d rfl _ HT9.out).mono ?_
        rintro e w10 ⟨rfl, hk⟩
        have e0 := hk.cells _ _ c0
        have e1 := hk.cells _ _ c1
        have HT10 := Lib.hid (HT9.out.keep hk)
        have HB10 := Lib.hid (HB9.out.keeps hk (by simp))
        have HK10 := Lib.hid (HK9.out.trans (hk.mono (by simp)))
        clear hk c0 c1
        go_wp2_with (fail)
        rw [rounds_succ]
        go_wp2_with (fail)
        refine (uCounts_any L cap t' 1 t'.b.f t'.b.s t'.b.d rfl _ HT10.out).mono ?_
        rintro e w11 ⟨rfl, hk⟩
        have q0 := hk.cells _ _ e0
        have q1 := hk.cells _ _ e1
        have HT11 := Lib.hid (HT10.out.keep hk)
        have HB11 := Lib.hid (HB10.out.keeps hk (by simp))
        have HK11 := Lib.hid (HK10.out.trans (hk.mono (by simp)))
        clear hk e0 e1
        go_wp2_with (fail)
        rw [rounds_succ]
        go_wp2_with (fail)
        go_roundw
        case rel => exact ⟨k + 1, t', by go_num, by omega, HT11, HB11, HK11⟩
        case measure => simp [intOf]; omega
    · obtain rfl : k = ys.length := by omega
      have hge : ¬ (ys.length : Int) < (ys.length : Int) := by omega
      go_wp2
      go_ret
      exact ⟨rfl, HK4.out.trans' HK.out (fun i hi => .inr (by
        rcases List.mem_cons.1 hi with hi | hi
        · subst hi; exact HBW.out
        · exact HLO.out i hi))⟩

theorem creditlaw_any (n : Int) (a : Option Addr) (xs : List Op1) (c : Nat) (w : World) (hx : OpsArg w a xs) (hE : Et w) :
    Calls Tryd.prog 6 #[.int .i64 n, .slice a xs.length c] w fun e w' => e = .returned (.bool true) ∧ Keeps [] w w' := by
  by_cases hn : n < 1 ∨ 4096 < n
  · exact credit_bad n a xs c w hE hn hx
  · obtain ⟨cap, rfl⟩ : ∃ cap : Nat, n = cap := ⟨n.toNat, by omega⟩
    exact credit_good cap a c xs w hE (by omega) (by omega) hx
end Go.Proofs.YtollcbacpoohlaaDoor
