/- The walk of TunnelOrder. Printed by gen_tunlaws.py. -/
import Derived.Test.YtollcbacpoohlaaDoorTunFl
import Derived.Test.YtollcbacpoohlaaDoorTunCr
namespace Go.Proofs.YtollcbacpoohlaaDoor
open Go.RowKit
attribute [local go_sem ↓] Go.wp_at_zero Go.wp_at_succ

theorem str_app (a b : List UInt8) : str a ++ str b = str (a ++ b) := by apply ByteArray.ext; simp [str]
theorem str_cut (a : List UInt8) (s : ByteArray) (n : Nat) : str a ++ s.extract 0 n = str (a ++ s.data.toList.take n) := by
  apply ByteArray.ext; apply Array.ext'; simp [str, ByteArray.data_extract]
theorem str_nil_app (a : List UInt8) : str a ++ str [] = str a := by rw [str_app, List.append_nil]

set_option maxRecDepth 100000 in
theorem order_bad (n : Int) (a : Option Addr) (xs : List Op1) (c : Nat) (w : World) (hE : Et w) (h : n < 1 ∨ 4096 < n) (hx : OpsArg w a xs) :
    Calls Tryd.prog 5 #[.int .i64 n, .slice a xs.length c] w fun e w' => e = .returned (.bool true) ∧ Keeps [] w w' := by
  have HE0 := Lib.hid hE
  have H := Lib.hid h
  have HX0 := Lib.hid hx
  clear hE h hx
  go_enter Tryd.func5, Tryd.ntmps5
  go_wp2_with (fail)
  refine (shown_any _ HE0.out).mono ?_
  rintro e w1 ⟨rfl, hk⟩
  have HK1 := Lib.hid hk
  have HE1 := Lib.hid (HE0.out.keeps hk (by simp))
  have HX1 := Lib.hid (HX0.out.keeps hk (by simp))
  clear hk
  go_wp2_with (fail)
  refine (cutops_g _ a c xs HX1.out).mono ?_
  rintro e w2 ⟨a', c', g, rfl, -, -, hk⟩
  have HK2 := Lib.hid (HK1.out.trans hk)
  have HE2 := Lib.hid (HE1.out.keeps hk (by simp))
  clear hk
  go_wp2_with (fail)
  refine (made_bad n (.slice none 0 0) _ H.out).mono ?_
  rintro e w3 ⟨rfl, hk⟩
  have HK3 := Lib.hid (HK2.out.trans hk)
  have HE3 := Lib.hid (HE2.out.keeps hk (by simp))
  clear hk
  go_wp2
  go_ret
  exact ⟨rfl, HK3.out⟩

set_option maxRecDepth 100000 in
set_option maxHeartbeats 8000000 in
theorem order_good (cap : Nat) (a : Option Addr) (c : Nat) (xs : List Op1) (w : World) (hE : Et w) (h1 : 1 ≤ cap) (h2 : cap ≤ 4096) (hx : OpsArg w a xs) :
    Calls Tryd.prog 5 #[.int .i64 cap, .slice a xs.length c] w fun e w' => e = .returned (.bool true) ∧ Keeps [] w w' := by
  have HE0 := Lib.hid hE
  have HX0 := Lib.hid hx
  clear hE hx
  have hyl := cutOps_length xs
  have hys := cutOps_size xs
  obtain ⟨ys, hye⟩ : ∃ ys, cutOps xs = ys := ⟨_, rfl⟩
  rw [hye] at hyl hys
  have HYS := Lib.hid hys
  have HYE := Lib.hid hye
  clear hys hye

  go_enter Tryd.func5, Tryd.ntmps5
  go_wp2_with (fail)
  refine (shown_any _ HE0.out).mono ?_
  rintro e w1 ⟨rfl, hk⟩
  have HK1 := Lib.hid hk
  have HE1 := Lib.hid (HE0.out.keeps hk (by simp))
  have HX1 := Lib.hid (HX0.out.keeps hk (by simp))
  clear hk
  go_wp2_with (fail)
  refine (cutops_g _ a c xs HX1.out).mono ?_
  rintro e w2 ⟨a', c', g, rfl, hin, hgl, hk⟩
  have HK2 := Lib.hid (HK1.out.trans hk)
  have HE2 := Lib.hid (HE1.out.keeps hk (by simp))
  have hye := HYE.out
  rw [hye] at hin
  rw [hye]
  clear hye
  have HIN := Lib.hid hin
  have HGB : Hid (g < w2.heap.size ∨ ys = []) := Lib.hid (by
    rcases Nat.eq_zero_or_pos ys.length with h0 | h0
    · exact .inr (List.eq_nil_of_length_eq_zero h0)
    · exact .inl (hin h0).2.1)
  clear hk hin hgl
  go_wp2_with (fail)
  refine (made_up cap _ HE2.out h1 h2).mono ?_
  rintro e w3 ⟨L, rfl, ht, hk, hlo⟩
  have HK3 := Lib.hid (HK2.out.trans hk)
  have HE3 := Lib.hid (HE2.out.keeps hk (by simp))
  have HT3 := Lib.hid ht
  have HLO : Hid (∀ k ∈ L.l, w.heap.size ≤ k) := (fun k hk => Nat.le_trans HK2.out.size (hlo k hk) : ∀ k ∈ L.l, w.heap.size ≤ k)
  have hgn : g ∉ L.l ∨ ys = [] := by
    rcases HGB.out with h | h
    · exact .inl (fun hm => by have := hlo g hm; omega)
    · exact .inr h
  have HIN3 := Lib.hid (HIN.out.keeps hk (by simp))
  have HGN := Lib.hid hgn
  have hgs : g < w3.heap.size ∨ ys = [] := HGB.out.imp (fun h => by have := hk.size; omega) id
  have HGS := Lib.hid hgs
  clear ht hk hlo hgn hgs
  obtain ⟨W4, hW4⟩ : ∃ W4, (w3.alloc (.cells #[.string ⟨#[]⟩, .string ⟨#[]⟩] 44)).alloc (.cells #[.string ⟨#[]⟩, .string ⟨#[]⟩] 44) = W4 := ⟨_, rfl⟩
  obtain ⟨gi, hgi⟩ : ∃ gi, w3.heap.size = gi := ⟨_, rfl⟩
  have hGI : Blk W4 gi 44 #[.string (str []), .string (str [])] := by rw [← hW4, ← hgi]; exact (Blk.new w3 _ _).alloc _
  have hGO : Blk W4 (gi + 1) 44 #[.string (str []), .string (str [])] := by rw [← hW4, ← hgi]; exact Blk.new2 _ _ _ _ (by simp)
  have hka : Keeps [] w3 W4 := by rw [← hW4]; exact ((Keeps.refl [] w3).alloc _).alloc _
  have HGI := Lib.hid hGI
  have HGO := Lib.hid hGO
  have HT4 := Lib.hid (HT3.out.keep hka)
  have HE4 := Lib.hid (HE3.out.keeps hka (by simp))
  have HIN4 := Lib.hid (HIN3.out.keeps hka (by simp))
  have HK4 := Lib.hid (HK3.out.trans hka)
  have HGB4 : Hid (gi ∉ L.l ∧ gi + 1 ∉ L.l) := (⟨fun hm => by have := HT3.out.lt gi hm; omega, fun hm => by have := HT3.out.lt _ hm; omega⟩ : gi ∉ L.l ∧ gi + 1 ∉ L.l)
  have HGG : Hid (g < gi ∨ ys = []) := Lib.hid (HGS.out.imp (fun h => by omega) id)
  have HBW : Hid (w.heap.size ≤ gi) := (by have := HK3.out.size; omega : w.heap.size ≤ gi)
  have HGE : Hid (0 < gi) := (by have := World.block_lt_of_cell? w3 _ HE3.out; dsimp only at this; omega : 0 < gi)
  have HW4 := Lib.hid hW4
  have HGIE := Lib.hid hgi
  clear hW4 hGI hGO hka hgi
  go_wp2
  rw [HGIE.out, HW4.out]
  go_loopw [10] (fun i wr => ∃ k : Nat, ∃ t : Tu, ∃ F : List UInt8 × List UInt8, i = .int .i64 k ∧ k ≤ ys.length ∧ Hid (TuAt wr L cap t ∧ Ord t F) ∧ Hid (Blk wr gi 44 #[.string (str F.1), .string (str F.2)] ∧ Blk wr (gi + 1) 44 #[.string (str (F.1.take t.a.d)), .string (str (F.2.take t.b.d))]) ∧ Hid (Keeps (gi :: (gi + 1) :: L.l) W4 wr)) (fun i _ => ys.length - (intOf i).toNat)
  case atStart => exact ⟨0, upT, ([], []), rfl, Nat.zero_le _, (⟨HT4.out, ⟨⟨rfl, rfl, .inl rfl⟩, ⟨rfl, rfl, .inl rfl⟩⟩⟩ : TuAt W4 L cap upT ∧ Ord upT ([], [])), (⟨HGI.out, HGO.out⟩ : Blk W4 gi 44 #[.string (str []), .string (str [])] ∧ Blk W4 (gi + 1) 44 #[.string (str []), .string (str [])]), (Keeps.refl _ _ : Keeps (gi :: (gi + 1) :: L.l) W4 W4)⟩
  case round =>
    obtain ⟨k, t, F, rfl, hk, HT, HB, HK⟩ := hrel
    by_cases hlt : k < ys.length
    · have hyn : ys ≠ [] := by rintro rfl; simp at hlt
      have hgg := HGG.out.resolve_right hyn
      have hgl : g ∉ L.l := HGN.out.resolve_right hyn
      have hgno : g ∉ gi :: (gi + 1) :: L.l := fun hm => by
        rcases List.mem_cons.1 hm with hm | hm
        · omega
        · rcases List.mem_cons.1 hm with hm | hm
          · omega
          · exact hgl hm
      have hin := HIN4.out.keeps HK.out hgno
      obtain ⟨x, rfl, hx, d0, d1, d2, d3⟩ := hin.at_ hlt
      have i1 : (0 : Int) ≤ (k : Int) := by omega
      have i2 : (k : Int) < (ys.length : Int) := by omega
      obtain ⟨hk', hx'⟩ := List.getElem?_eq_some_iff.1 hx
      have hsz : x.s.size ≤ 50 := HYS.out x (by rw [← hx']; exact List.getElem_mem _)
      have HSZ := Lib.hid hsz
      obtain ⟨n, q, r, t', hact⟩ : ∃ n q r t', t.act cap x = ((n, q, r), t') := ⟨_, _, _, _, rfl⟩
      obtain ⟨F', hO', hs1, hs2⟩ := act_flow HT.out.2 HT.out.1.a.ok HT.out.1.b.ok HT.out.1.ok x hact
      have hEr : Et wr := HE4.out.keeps HK.out (fun hm => by
        have := HGE.out
        rcases List.mem_cons.1 hm with hm | hm
        · omega
        · rcases List.mem_cons.1 hm with hm | hm
          · omega
          · exact HT4.out.nz hm)
      have hd := do_any L cap t t' x (by omega) n q r hact wr hEr HT.out.1
      have HD := Lib.hid hd
      have HO := Lib.hid hO'
      have HS1 := Lib.hid hs1
      have HS2 := Lib.hid hs2
      have HGL := Lib.hid hgl
      clear hin hx hk' hx' hact hO' hs1 hs2 hd hyn hgno hEr hgg hgl hsz
      go_wp2_with (fail)
      refine HD.out.mono ?_
      rintro e w7 ⟨rfl, ht, hk7⟩
      have f0 := hk7.cell (p := ⟨g, k * 4, none⟩) (World.block_lt_of_cell? wr _ d0) HGL.out
      have f1 := hk7.cell (p := ⟨g, k * 4 + 1, none⟩) (World.block_lt_of_cell? wr _ d1) HGL.out
      have f3 := hk7.cell (p := ⟨g, k * 4 + 3, none⟩) (World.block_lt_of_cell? wr _ d3) HGL.out
      rw [d0] at f0
      rw [d1] at f1
      rw [d3] at f3
      have a0 := (Keeps.refl [] w7).cellsA ⟨g, k * 4, none⟩ _ (.cells #[.int .i64 n, .string (str q), .int .i64 r] 32) f0
      have a1 := (Keeps.refl [] w7).cellsA ⟨g, k * 4 + 1, none⟩ _ (.cells #[.int .i64 n, .string (str q), .int .i64 r] 32) f1
      have a3 := (Keeps.refl [] w7).cellsA ⟨g, k * 4 + 3, none⟩ _ (.cells #[.int .i64 n, .string (str q), .int .i64 r] 32) f3
      obtain ⟨W8, hW8⟩ : ∃ W8, w7.alloc (.cells #[.int .i64 n, .string (str q), .int .i64 r] 32) = W8 := ⟨_, rfl⟩
      obtain ⟨sb, hsb⟩ : ∃ sb, w7.heap.size = sb := ⟨_, rfl⟩
      have hka : Keeps [] w7 W8 := by rw [← hW8]; exact (Keeps.refl [] w7).alloc _
      have hSd : Blk W8 sb 32 #[.int .i64 n, .string (str q), .int .i64 r] := by rw [← hW8, ← hsb]; exact Blk.new w7 _ _
      have HF0 := Lib.hid (hka.cells _ _ f0)
      have HF3 := Lib.hid (hka.cells _ _ f3)
      have HT8 := Lib.hid (TuAt.keep ht hka)
      have HBI := Lib.hid ((HB.out.1.keeps hk7 HGB4.out.1).keeps hka (by simp))
      have HBO := Lib.hid ((HB.out.2.keeps hk7 HGB4.out.2).keeps hka (by simp))
      have HK8 := Lib.hid ((HK.out.trans (hk7.mono (by simp +contextual))).trans (hka.mono (by simp)))
      have HSD := Lib.hid hSd
      have HGW : Hid (gi + 1 < sb) := (by have := (HB.out.2.keeps hk7 HGB4.out.2).lt; omega : gi + 1 < sb)
      have HSB := Lib.hid hsb
      have HW8 := Lib.hid hW8
      clear ht hk7 hka hSd hW8 hsb d0 d1 d2 d3 f0 f1 f3
      by_cases hr : r = 0
      rotate_left
      · have hn1 : (r != 0) = true := by simpa using hr
        obtain ⟨rfl, ea, eb⟩ := HS1.out (.inl hr)
        obtain ⟨W9, hW9⟩ : ∃ W9, W8 = W9 := ⟨_, rfl⟩
        have HT9 : Hid (TuAt W9 L cap t') := hW9 ▸ HT8
        have HBI9 : Hid (Blk W9 gi 44 #[.string (str F'.1), .string (str F'.2)]) := hW9 ▸ HBI
        have HBO9 : Hid (Blk W9 (gi + 1) 44 #[.string (str (F'.1.take t'.a.d)), .string (str (F'.2.take t'.b.d))]) := Lib.hid (by rw [← hW9, ea, eb]; exact HBO.out)
        have HK9 : Hid (Keeps (gi :: (gi + 1) :: L.l) W4 W9) := hW9 ▸ HK8
        have HW9 := Lib.hid (HW8.out.trans hW9)
        clear ea eb hW9 HT8 HBI HBO HK8 HS1 HS2 HF0 HF3 hr
        go_wp2_with (fail)
        go_roundw
        case rel => rw [HW9.out]; exact ⟨k + 1, t', F', by go_num, by omega, (⟨HT9.out, HO.out⟩ : TuAt W9 L cap t' ∧ Ord t' F'), (⟨HBI9.out, HBO9.out⟩ : Blk W9 gi 44 #[.string (str F'.1), .string (str F'.2)] ∧ Blk W9 (gi + 1) 44 #[.string (str (F'.1.take t'.a.d)), .string (str (F'.2.take t'.b.d))]), HK9⟩
        case measure => simp [intOf]; omega
      subst hr
      by_cases hs0 : 0 ≤ x.side
      rotate_left
      · have hn1 : x.side < 0 := by omega
        obtain ⟨rfl, ea, eb⟩ := HS1.out (.inr (by simp [sideB]; omega))
        obtain ⟨W9, hW9⟩ : ∃ W9, W8 = W9 := ⟨_, rfl⟩
        have HT9 : Hid (TuAt W9 L cap t') := hW9 ▸ HT8
        have HBI9 : Hid (Blk W9 gi 44 #[.string (str F'.1), .string (str F'.2)]) := hW9 ▸ HBI
        have HBO9 : Hid (Blk W9 (gi + 1) 44 #[.string (str (F'.1.take t'.a.d)), .string (str (F'.2.take t'.b.d))]) := Lib.hid (by rw [← hW9, ea, eb]; exact HBO.out)
        have HK9 : Hid (Keeps (gi :: (gi + 1) :: L.l) W4 W9) := hW9 ▸ HK8
        have HW9 := Lib.hid (HW8.out.trans hW9)
        clear ea eb hW9 HT8 HBI HBO HK8 HS1 HS2 HF0 HF3 hs0
        go_wp2_with (fail)
        go_roundw
        case rel => rw [HW9.out]; exact ⟨k + 1, t', F', by go_num, by omega, (⟨HT9.out, HO.out⟩ : TuAt W9 L cap t' ∧ Ord t' F'), (⟨HBI9.out, HBO9.out⟩ : Blk W9 gi 44 #[.string (str F'.1), .string (str F'.2)] ∧ Blk W9 (gi + 1) 44 #[.string (str (F'.1.take t'.a.d)), .string (str (F'.2.take t'.b.d))]), HK9⟩
        case measure => simp [intOf]; omega
      by_cases hs1 : x.side ≤ 1
      rotate_left
      · have hn1 : (1 : Int) < x.side := by omega
        obtain ⟨rfl, ea, eb⟩ := HS1.out (.inr (by simp [sideB]; omega))
        have hn2 : ¬ x.side < 0 := by omega
        obtain ⟨W9, hW9⟩ : ∃ W9, W8 = W9 := ⟨_, rfl⟩
        have HT9 : Hid (TuAt W9 L cap t') := hW9 ▸ HT8
        have HBI9 : Hid (Blk W9 gi 44 #[.string (str F'.1), .string (str F'.2)]) := hW9 ▸ HBI
        have HBO9 : Hid (Blk W9 (gi + 1) 44 #[.string (str (F'.1.take t'.a.d)), .string (str (F'.2.take t'.b.d))]) := Lib.hid (by rw [← hW9, ea, eb]; exact HBO.out)
        have HK9 : Hid (Keeps (gi :: (gi + 1) :: L.l) W4 W9) := hW9 ▸ HK8
        have HW9 := Lib.hid (HW8.out.trans hW9)
        clear ea eb hW9 HT8 HBI HBO HK8 HS1 HS2 HF0 HF3 hs1
        go_wp2_with (fail)
        go_roundw
        case rel => rw [HW9.out]; exact ⟨k + 1, t', F', by go_num, by omega, (⟨HT9.out, HO.out⟩ : TuAt W9 L cap t' ∧ Ord t' F'), (⟨HBI9.out, HBO9.out⟩ : Blk W9 gi 44 #[.string (str F'.1), .string (str F'.2)] ∧ Blk W9 (gi + 1) 44 #[.string (str (F'.1.take t'.a.d)), .string (str (F'.2.take t'.b.d))]), HK9⟩
        case measure => simp [intOf]; omega
      have hside : x.side = 0 ∨ x.side = 1 := by omega
      rcases hside with hsd | hsd
      · have hsb : sideB x.side = true := by rw [hsd]; rfl
        obtain ⟨hk2, hkn, hout, hoth, hq⟩ := HS2.out rfl hsb
        rw [hsd] at a1 hk2 hout hoth
        have hlf : F'.1.length = t'.a.f := HO.out.a.len
        have hlf0 : F.1.length = t.a.f := HT.out.2.a.len
        have hbf : t'.a.f ≤ 9000000000000 ∧ t.a.f ≤ 9000000000000 := by
          have e1 := HT8.out.a.ok.f'; have e2 := (okC_le HT8.out.a.ok.c); have e3 := HT8.out.a.ok.i; have e4 := HT8.out.a.fi.le
          have g1 := HT.out.1.a.ok.f'; have g2 := (okC_le HT.out.1.a.ok.c); have g3 := HT.out.1.a.ok.i
          omega
        have hbq : (str (F.1.take t.a.d)).size + (str q).size ≤ 9223372036854775807 := by
          have e1 := congrArg List.length hout
          rw [List.length_append, List.length_take] at e1
          have e2 : (Fat F' 0).length = t'.a.f := hlf
          have e3 : (Fat F 0) = F.1 := rfl
          have e4 : (t.at_ 0) = t.a := rfl
          rw [e3, e4] at e1
          rw [str_size, str_size]
          omega
        have hbn : ∀ n, n ≤ x.s.size → (str F.1).size + n ≤ 9223372036854775807 := fun n hn => by rw [str_size]; have := HSZ.out; omega
        clear hlf hlf0
        have HOUT := Lib.hid hout
        have HOTH := Lib.hid hoth
        clear hsb hout hoth hs0 hs1 hsd hq HS1 HS2
        by_cases hkd : x.kind = 2
        · obtain ⟨hn, rfl, hF⟩ := hk2 hkd
          have hp1 : (x.kind == 2) = true := by simpa using hkd
          have HFF := Lib.hid hF
          have hbn1 := hbn n hn
          clear hbn
          have hnn : ¬ (n : Int) < 0 := by omega
          have hnl : ¬ x.s.size < n := by omega
          have hn1 : (0 : Int) ≤ (n : Int) := by omega
          have hn2 : (n : Int) ≤ (x.s.size : Int) := by omega
          have hsl : ∀ W : World, (Instr.slice 9 (.string x.s) none (some (.int .i64 (n : Int))) none).run Tryd.prog W = .ok (.string (x.s.extract 0 n)) W := fun W => by
            have := run_slice_string_h (P := Tryd.prog) (w := W) (t := 9) (s := x.s) Tryd.underlying9 .i64 (n : Int) (by omega) (by omega)
            simpa using this
          clear hk2 hkn hF hkd
          go_wp2_with (fail)
          rw [HW8.out]
          have z0 := HSD.out.cell 0
          have z1 := HSD.out.cell 1
          have b0 := HF0.out
          have b3 := HF3.out
          have c0 := HBI.out.cell 0
          have cf := HBI.out.frozen 0
          have e0 := HBO.out.cell 0
          have ef := HBO.out.frozen 0
          rw [HSB.out]
          simp only [List.getElem?_toArray, List.getElem?_cons_zero, List.getElem?_cons_succ] at z0 z1 c0 e0
          go_quiet (fail)
          have q1 : gi ≠ sb := by have := HGW.out; omega
          have q2 : gi + 1 ≠ sb := by have := HGW.out; omega
          have q3 : sb ≠ gi := by have := HGW.out; omega
          have q4 : sb ≠ gi + 1 := by have := HGW.out; omega
          go_wp2_with (fail)
          go_region
          go_wp2_with (fail)
          go_region
          obtain ⟨W9, hW9⟩ : ∃ W9, (((W8.drewN (nq + 1)).setCell ⟨gi, 0, none⟩ (.string (str F.1 ++ x.s.extract 0 n))).setCell ⟨gi + 1, 0, none⟩ (.string (str (F.1.take t.a.d) ++ str []))).drew = W9 := ⟨_, rfl⟩
          have hst : Keeps [gi, gi + 1] W8 W9 := by rw [← hW9]; exact ((((Keeps.refl [gi, gi + 1] W8).drewN _).setCell (p := ⟨gi, 0, none⟩) (.inl (by simp)) _).setCell (p := ⟨gi + 1, 0, none⟩) (.inl (by simp)) _).drew
          have hbi : Blk W9 gi 44 #[.string (str F.1 ++ x.s.extract 0 n), .string (str F.2)] := by rw [← hW9]; exact ((by simpa using (HBI.out.drewN (nq + 1)).set_ 0 (.string (str F.1 ++ x.s.extract 0 n)) : Blk _ gi 44 #[.string (str F.1 ++ x.s.extract 0 n), .string (str F.2)]).far (p := ⟨gi + 1, 0, none⟩) (by simp) _).drew
          have hbo : Blk W9 (gi + 1) 44 #[.string (str (F.1.take t.a.d) ++ str []), .string (str (F.2.take t.b.d))] := by rw [← hW9]; exact Blk.drew (by simpa using ((HBO.out.drewN (nq + 1)).far (p := ⟨gi, 0, none⟩) (by simp) (.string (str F.1 ++ x.s.extract 0 n))).set_ 0 (.string (str (F.1.take t.a.d) ++ str [])))
          obtain rfl : F' = (F.1 ++ x.s.data.toList.take n, F.2) := HFF.out
          rw [str_cut] at hbi
          have eo : (F.1 ++ x.s.data.toList.take n).take t'.a.d = F.1.take t.a.d ++ [] := HOUT.out
          have ez : t'.b.d = t.b.d := HOTH.out
          rw [str_app, ← eo, ← ez] at hbo
          have HT9 := Lib.hid (HT8.out.keeps hst (fun k hk hm => by simp only [List.mem_cons, List.not_mem_nil, or_false] at hm; rcases hm with rfl | rfl; exact HGB4.out.1 hk; exact HGB4.out.2 hk))
          have HBI9 := Lib.hid hbi
          have HBO9 := Lib.hid hbo
          have HK9 := Lib.hid (HK8.out.trans (hst.mono (by simp)))
          have HW9 := Lib.hid hW9
          clear hst hbi hbo eo ez hW9 z0 z1 b0 b3 c0 cf e0 ef hsl HT8 HBI HBO HK8 HF0 HF3 hbq hbn1 hbf
          go_wp2_with (fail)
          rw [HW9.out]
          go_roundw
          case rel => exact ⟨k + 1, t', (F.1 ++ x.s.data.toList.take n, F.2), by go_num, by omega, (⟨HT9.out, HO.out⟩ : TuAt W9 L cap t' ∧ Ord t' (F.1 ++ x.s.data.toList.take n, F.2)), (⟨HBI9.out, HBO9.out⟩ : Blk W9 gi 44 #[.string (str ((F.1 ++ x.s.data.toList.take n, F.2)).1), .string (str ((F.1 ++ x.s.data.toList.take n, F.2)).2)] ∧ Blk W9 (gi + 1) 44 #[.string (str (((F.1 ++ x.s.data.toList.take n, F.2)).1.take t'.a.d)), .string (str (((F.1 ++ x.s.data.toList.take n, F.2)).2.take t'.b.d))]), HK9⟩
          case measure => simp [intOf]; omega
        · have hF := hkn hkd
          have hp1 : (x.kind == 2) = false := by simpa using hkd
          have HFF := Lib.hid hF
          clear hk2 hkn hF hkd
          go_wp2_with (fail)
          rw [HW8.out]
          have z1 := HSD.out.cell 1
          have e0 := HBO.out.cell 0
          have ef := HBO.out.frozen 0
          rw [HSB.out]
          simp only [List.getElem?_toArray, List.getElem?_cons_zero, List.getElem?_cons_succ] at z1 e0
          go_region
          obtain ⟨W9, hW9⟩ : ∃ W9, (W8.setCell ⟨gi + 1, 0, none⟩ (.string (str (F.1.take t.a.d) ++ str q))).drew = W9 := ⟨_, rfl⟩
          have hst : Keeps [gi + 1] W8 W9 := by rw [← hW9]; exact ((Keeps.refl [gi + 1] W8).setCell (p := ⟨gi + 1, 0, none⟩) (.inl (by simp)) _).drew
          have hbi : Blk W9 gi 44 #[.string (str F.1), .string (str F.2)] := HBI.out.keeps hst (by simp)
          have hbo : Blk W9 (gi + 1) 44 #[.string (str (F.1.take t.a.d) ++ str q), .string (str (F.2.take t.b.d))] := by rw [← hW9]; exact Blk.drew (by simpa using HBO.out.set_ 0 (.string (str (F.1.take t.a.d) ++ str q)))
          obtain rfl : F' = F := HFF.out
          have eo : F'.1.take t'.a.d = F'.1.take t.a.d ++ q := HOUT.out
          have ez : t'.b.d = t.b.d := HOTH.out
          rw [str_app, ← eo, ← ez] at hbo
          have HT9 := Lib.hid (HT8.out.keeps hst (fun k hk hm => by simp only [List.mem_singleton] at hm; subst hm; exact HGB4.out.2 hk))
          have HBI9 := Lib.hid hbi
          have HBO9 := Lib.hid hbo
          have HK9 := Lib.hid (HK8.out.trans (hst.mono (by simp)))
          have HW9 := Lib.hid hW9
          clear hst hbi hbo eo ez hW9 z1 e0 ef HT8 HBI HBO HK8 HF0 HF3 hbq hbn hbf
          go_wp2_with (fail)
          rw [HW9.out]
          go_roundw
          case rel => exact ⟨k + 1, t', F', by go_num, by omega, (⟨HT9.out, HO.out⟩ : TuAt W9 L cap t' ∧ Ord t' F'), (⟨HBI9.out, HBO9.out⟩ : Blk W9 gi 44 #[.string (str (F').1), .string (str (F').2)] ∧ Blk W9 (gi + 1) 44 #[.string (str ((F').1.take t'.a.d)), .string (str ((F').2.take t'.b.d))]), HK9⟩
          case measure => simp [intOf]; omega
      · have hsb : sideB x.side = true := by rw [hsd]; rfl
        obtain ⟨hk2, hkn, hout, hoth, hq⟩ := HS2.out rfl hsb
        rw [hsd] at a1 hk2 hout hoth
        have hlf : F'.2.length = t'.b.f := HO.out.b.len
        have hlf0 : F.2.length = t.b.f := HT.out.2.b.len
        have hbf : t'.b.f ≤ 9000000000000 ∧ t.b.f ≤ 9000000000000 := by
          have e1 := HT8.out.b.ok.f'; have e2 := (okC_le HT8.out.b.ok.c); have e3 := HT8.out.b.ok.i; have e4 := HT8.out.b.fi.le
          have g1 := HT.out.1.b.ok.f'; have g2 := (okC_le HT.out.1.b.ok.c); have g3 := HT.out.1.b.ok.i
          omega
        have hbq : (str (F.2.take t.b.d)).size + (str q).size ≤ 9223372036854775807 := by
          have e1 := congrArg List.length hout
          rw [List.length_append, List.length_take] at e1
          have e2 : (Fat F' 1).length = t'.b.f := hlf
          have e3 : (Fat F 1) = F.2 := rfl
          have e4 : (t.at_ 1) = t.b := rfl
          rw [e3, e4] at e1
          rw [str_size, str_size]
          omega
        have hbn : ∀ n, n ≤ x.s.size → (str F.2).size + n ≤ 9223372036854775807 := fun n hn => by rw [str_size]; have := HSZ.out; omega
        clear hlf hlf0
        have HOUT := Lib.hid hout
        have HOTH := Lib.hid hoth
        clear hsb hout hoth hs0 hs1 hsd hq HS1 HS2
        by_cases hkd : x.kind = 2
        · obtain ⟨hn, rfl, hF⟩ := hk2 hkd
          have hp1 : (x.kind == 2) = true := by simpa using hkd
          have HFF := Lib.hid hF
          have hbn1 := hbn n hn
          clear hbn
          have hnn : ¬ (n : Int) < 0 := by omega
          have hnl : ¬ x.s.size < n := by omega
          have hn1 : (0 : Int) ≤ (n : Int) := by omega
          have hn2 : (n : Int) ≤ (x.s.size : Int) := by omega
          have hsl : ∀ W : World, (Instr.slice 9 (.string x.s) none (some (.int .i64 (n : Int))) none).run Tryd.prog W = .ok (.string (x.s.extract 0 n)) W := fun W => by
            have := run_slice_string_h (P := Tryd.prog) (w := W) (t := 9) (s := x.s) Tryd.underlying9 .i64 (n : Int) (by omega) (by omega)
            simpa using this
          clear hk2 hkn hF hkd
          go_wp2_with (fail)
          rw [HW8.out]
          have z0 := HSD.out.cell 0
          have z1 := HSD.out.cell 1
          have b0 := HF0.out
          have b3 := HF3.out
          have c0 := HBI.out.cell 1
          have cf := HBI.out.frozen 1
          have e0 := HBO.out.cell 1
          have ef := HBO.out.frozen 1
          rw [HSB.out]
          simp only [List.getElem?_toArray, List.getElem?_cons_zero, List.getElem?_cons_succ] at z0 z1 c0 e0
          go_quiet (fail)
          have q1 : gi ≠ sb := by have := HGW.out; omega
          have q2 : gi + 1 ≠ sb := by have := HGW.out; omega
          have q3 : sb ≠ gi := by have := HGW.out; omega
          have q4 : sb ≠ gi + 1 := by have := HGW.out; omega
          go_wp2_with (fail)
          go_region
          go_wp2_with (fail)
          go_region
          obtain ⟨W9, hW9⟩ : ∃ W9, (((W8.drewN (nq + 1)).setCell ⟨gi, 1, none⟩ (.string (str F.2 ++ x.s.extract 0 n))).setCell ⟨gi + 1, 1, none⟩ (.string (str (F.2.take t.b.d) ++ str []))).drew = W9 := ⟨_, rfl⟩
          have hst : Keeps [gi, gi + 1] W8 W9 := by rw [← hW9]; exact ((((Keeps.refl [gi, gi + 1] W8).drewN _).setCell (p := ⟨gi, 1, none⟩) (.inl (by simp)) _).setCell (p := ⟨gi + 1, 1, none⟩) (.inl (by simp)) _).drew
          have hbi : Blk W9 gi 44 #[.string (str F.1), .string (str F.2 ++ x.s.extract 0 n)] := by rw [← hW9]; exact ((by simpa using (HBI.out.drewN (nq + 1)).set_ 1 (.string (str F.2 ++ x.s.extract 0 n)) : Blk _ gi 44 #[.string (str F.1), .string (str F.2 ++ x.s.extract 0 n)]).far (p := ⟨gi + 1, 1, none⟩) (by simp) _).drew
          have hbo : Blk W9 (gi + 1) 44 #[.string (str (F.1.take t.a.d)), .string (str (F.2.take t.b.d) ++ str [])] := by rw [← hW9]; exact Blk.drew (by simpa using ((HBO.out.drewN (nq + 1)).far (p := ⟨gi, 1, none⟩) (by simp) (.string (str F.2 ++ x.s.extract 0 n))).set_ 1 (.string (str (F.2.take t.b.d) ++ str [])))
          obtain rfl : F' = (F.1, F.2 ++ x.s.data.toList.take n) := HFF.out
          rw [str_cut] at hbi
          have eo : (F.2 ++ x.s.data.toList.take n).take t'.b.d = F.2.take t.b.d ++ [] := HOUT.out
          have ez : t'.a.d = t.a.d := HOTH.out
          rw [str_app, ← eo, ← ez] at hbo
          have HT9 := Lib.hid (HT8.out.keeps hst (fun k hk hm => by simp only [List.mem_cons, List.not_mem_nil, or_false] at hm; rcases hm with rfl | rfl; exact HGB4.out.1 hk; exact HGB4.out.2 hk))
          have HBI9 := Lib.hid hbi
          have HBO9 := Lib.hid hbo
          have HK9 := Lib.hid (HK8.out.trans (hst.mono (by simp)))
          have HW9 := Lib.hid hW9
          clear hst hbi hbo eo ez hW9 z0 z1 b0 b3 c0 cf e0 ef hsl HT8 HBI HBO HK8 HF0 HF3 hbq hbn1 hbf
          go_wp2_with (fail)
          rw [HW9.out]
          go_roundw
          case rel => exact ⟨k + 1, t', (F.1, F.2 ++ x.s.data.toList.take n), by go_num, by omega, (⟨HT9.out, HO.out⟩ : TuAt W9 L cap t' ∧ Ord t' (F.1, F.2 ++ x.s.data.toList.take n)), (⟨HBI9.out, HBO9.out⟩ : Blk W9 gi 44 #[.string (str ((F.1, F.2 ++ x.s.data.toList.take n)).1), .string (str ((F.1, F.2 ++ x.s.data.toList.take n)).2)] ∧ Blk W9 (gi + 1) 44 #[.string (str (((F.1, F.2 ++ x.s.data.toList.take n)).1.take t'.a.d)), .string (str (((F.1, F.2 ++ x.s.data.toList.take n)).2.take t'.b.d))]), HK9⟩
          case measure => simp [intOf]; omega
        · have hF := hkn hkd
          have hp1 : (x.kind == 2) = false := by simpa using hkd
          have HFF := Lib.hid hF
          clear hk2 hkn hF hkd
          go_wp2_with (fail)
          rw [HW8.out]
          have z1 := HSD.out.cell 1
          have e0 := HBO.out.cell 1
          have ef := HBO.out.frozen 1
          rw [HSB.out]
          simp only [List.getElem?_toArray, List.getElem?_cons_zero, List.getElem?_cons_succ] at z1 e0
          go_region
          obtain ⟨W9, hW9⟩ : ∃ W9, (W8.setCell ⟨gi + 1, 1, none⟩ (.string (str (F.2.take t.b.d) ++ str q))).drew = W9 := ⟨_, rfl⟩
          have hst : Keeps [gi + 1] W8 W9 := by rw [← hW9]; exact ((Keeps.refl [gi + 1] W8).setCell (p := ⟨gi + 1, 1, none⟩) (.inl (by simp)) _).drew
          have hbi : Blk W9 gi 44 #[.string (str F.1), .string (str F.2)] := HBI.out.keeps hst (by simp)
          have hbo : Blk W9 (gi + 1) 44 #[.string (str (F.1.take t.a.d)), .string (str (F.2.take t.b.d) ++ str q)] := by rw [← hW9]; exact Blk.drew (by simpa using HBO.out.set_ 1 (.string (str (F.2.take t.b.d) ++ str q)))
          obtain rfl : F' = F := HFF.out
          have eo : F'.2.take t'.b.d = F'.2.take t.b.d ++ q := HOUT.out
          have ez : t'.a.d = t.a.d := HOTH.out
          rw [str_app, ← eo, ← ez] at hbo
          have HT9 := Lib.hid (HT8.out.keeps hst (fun k hk hm => by simp only [List.mem_singleton] at hm; subst hm; exact HGB4.out.2 hk))
          have HBI9 := Lib.hid hbi
          have HBO9 := Lib.hid hbo
          have HK9 := Lib.hid (HK8.out.trans (hst.mono (by simp)))
          have HW9 := Lib.hid hW9
          clear hst hbi hbo eo ez hW9 z1 e0 ef HT8 HBI HBO HK8 HF0 HF3 hbq hbn hbf
          go_wp2_with (fail)
          rw [HW9.out]
          go_roundw
          case rel => exact ⟨k + 1, t', F', by go_num, by omega, (⟨HT9.out, HO.out⟩ : TuAt W9 L cap t' ∧ Ord t' F'), (⟨HBI9.out, HBO9.out⟩ : Blk W9 gi 44 #[.string (str (F').1), .string (str (F').2)] ∧ Blk W9 (gi + 1) 44 #[.string (str ((F').1.take t'.a.d)), .string (str ((F').2.take t'.b.d))]), HK9⟩
          case measure => simp [intOf]; omega
    · obtain rfl : k = ys.length := by omega
      have hge : ¬ (ys.length : Int) < (ys.length : Int) := by omega
      have c0 : wr.cell? ⟨gi, 0, none⟩ = some (.string (str F.1)) := HB.out.1.cell 0
      have c1 : wr.cell? ⟨gi, 1, none⟩ = some (.string (str F.2)) := HB.out.1.cell 1
      have c2 : wr.cell? ⟨gi + 1, 0, none⟩ = some (.string (str (F.1.take t.a.d))) := HB.out.2.cell 0
      have c3 : wr.cell? ⟨gi + 1, 1, none⟩ = some (.string (str (F.2.take t.b.d))) := HB.out.2.cell 1
      have la := HT.out.2.a.len
      have lb := HT.out.2.b.len
      have da := HT.out.1.a.ok.d
      have db := HT.out.1.b.ok.d
      have fa := HT.out.1.a.ok.f
      have fb := HT.out.1.b.ok.f
      have hbf : t.a.f ≤ 9000000000000 ∧ t.b.f ≤ 9000000000000 := by
        have e1 := HT.out.1.a.ok.f'; have e2 := (okC_le HT.out.1.a.ok.c); have e3 := HT.out.1.a.ok.i; have e4 := HT.out.1.a.fi.le
        have g1 := HT.out.1.b.ok.f'; have g2 := (okC_le HT.out.1.b.ok.c); have g3 := HT.out.1.b.ok.i
        omega
      obtain ⟨I0, hI0⟩ : ∃ I, str F.1 = I := ⟨_, rfl⟩
      obtain ⟨I1, hI1⟩ : ∃ I, str F.2 = I := ⟨_, rfl⟩
      obtain ⟨O0, hO0⟩ : ∃ I, str (F.1.take t.a.d) = I := ⟨_, rfl⟩
      obtain ⟨O1, hO1⟩ : ∃ I, str (F.2.take t.b.d) = I := ⟨_, rfl⟩
      rw [hI0] at c0
      rw [hI1] at c1
      rw [hO0] at c2
      rw [hO1] at c3
      have si0 : I0.size = t.a.f := by rw [← hI0, str_size, la]
      have si1 : I1.size = t.b.f := by rw [← hI1, str_size, lb]
      have so0 : O0.size = t.a.d := by rw [← hO0, str_size, List.length_take]; omega
      have so1 : O1.size = t.b.d := by rw [← hO1, str_size, List.length_take]; omega
      have hsl0 : ∀ W : World, (Instr.slice 9 (.string I0) none (some (.int .i64 (t.a.d : Int))) none).run Tryd.prog W = .ok (.string O0) W := fun W => by
        have := run_slice_string_h (P := Tryd.prog) (w := W) (t := 9) (s := I0) Tryd.underlying9 .i64 (t.a.d : Int) (by omega) (by omega)
        have e : I0.extract 0 t.a.d = O0 := by rw [← hI0, ← hO0]; apply ByteArray.ext; apply Array.ext'; simp [str, ByteArray.data_extract]
        simpa [e] using this
      have hsl1 : ∀ W : World, (Instr.slice 9 (.string I1) none (some (.int .i64 (t.b.d : Int))) none).run Tryd.prog W = .ok (.string O1) W := fun W => by
        have := run_slice_string_h (P := Tryd.prog) (w := W) (t := 9) (s := I1) Tryd.underlying9 .i64 (t.b.d : Int) (by omega) (by omega)
        have e : I1.extract 0 t.b.d = O1 := by rw [← hI1, ← hO1]; apply ByteArray.ext; apply Array.ext'; simp [str, ByteArray.data_extract]
        simpa [e] using this
      have na0 : ¬ t.a.f < t.a.d := by omega
      have na1 : ¬ t.a.s < t.a.d := by omega
      have na2 : ¬ t.a.f < t.a.s := by omega
      have nb0 : ¬ t.b.f < t.b.d := by omega
      have nb1 : ¬ t.b.s < t.b.d := by omega
      have nb2 : ¬ t.b.f < t.b.s := by omega
      have ia0 : (0 : Int) ≤ (t.a.d : Int) := by omega
      have ia1 : (t.a.d : Int) ≤ (t.a.f : Int) := by omega
      have ib0 : (0 : Int) ≤ (t.b.d : Int) := by omega
      have ib1 : (t.b.d : Int) ≤ (t.b.f : Int) := by omega
      have C1 := Lib.hid c1
      have C3 := Lib.hid c3
      clear la lb da db fa fb hI0 hI1 hO0 hO1 c1 c3
      go_wp2
      refine wp_loop_rounds 3 ?_
      rw [rounds_succ]
      go_wp2_with (fail)
      refine (uCounts_any L cap t 0 t.a.f t.a.s t.a.d rfl _ HT.out.1).mono ?_
      rintro e w10 ⟨rfl, hk⟩
      have p0 := hk.cells _ _ c0
      have p2 := hk.cells _ _ c2
      have P1 := Lib.hid (hk.cells _ _ C1.out)
      have P3 := Lib.hid (hk.cells _ _ C3.out)
      have HT10 := Lib.hid (HT.out.1.keep hk)
      have HK10 := Lib.hid (HK.out.trans (hk.mono (by simp)))
      clear hk c0 c2 C1 C3
      go_wp2_with (fail)
      go_quiet (fail)
      go_wp2_with (fail)
      rw [rounds_succ]
      go_wp2_with (fail)
      refine (uCounts_any L cap t 1 t.b.f t.b.s t.b.d rfl _ (HT10.out.keep ((Keeps.refl [] w10).drewN _))).mono ?_
      rintro e w11 ⟨rfl, hk⟩
      have p1 := hk.cells _ _ P1.out
      have p3 := hk.cells _ _ P3.out
      have HK11 := Lib.hid ((HK10.out.drewN _).trans (hk.mono (by simp)))
      clear hk p0 p2
      go_wp2_with (fail)
      go_quiet (fail)
      go_wp2_with (fail)
      rw [rounds_succ]
      go_wp2
      go_ret
      exact ⟨rfl, HK4.out.trans' (HK11.out.drewN _) (fun i hi => .inr (by
        have := HBW.out
        rcases List.mem_cons.1 hi with hi | hi
        · omega
        · rcases List.mem_cons.1 hi with hi | hi
          · omega
          · exact HLO.out i hi))⟩

theorem orderlaw_any (n : Int) (a : Option Addr) (xs : List Op1) (c : Nat) (w : World) (hx : OpsArg w a xs) (hE : Et w) :
    Calls Tryd.prog 5 #[.int .i64 n, .slice a xs.length c] w fun e w' => e = .returned (.bool true) ∧ Keeps [] w w' := by
  by_cases hn : n < 1 ∨ 4096 < n
  · exact order_bad n a xs c w hE hn hx
  · obtain ⟨cap, rfl⟩ : ∃ cap : Nat, n = cap := ⟨n.toNat, by omega⟩
    exact order_good cap a c xs w hE (by omega) (by omega) hx
end Go.Proofs.YtollcbacpoohlaaDoor
