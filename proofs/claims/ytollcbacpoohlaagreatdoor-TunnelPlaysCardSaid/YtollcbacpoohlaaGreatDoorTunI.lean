/- The walks of a tunnel's Move. -/
import Derived.Test.YtollcbacpoohlaaGreatDoorTunH
namespace Go.Proofs.YtollcbacpoohlaaGreatDoor
open Go.RowKit

set_option maxHeartbeats 2000000 in
theorem uMove_any (L : TL) (cap : Nat) (t t' : Tu) (side n : Int) (k : Nat) (r : Int) (hr : t.move cap side n = (k, r, t')) (w : World) (hE : Et w) (h : TuAt w L cap t) :
    Calls Tryz.prog 16 #[.pointer (some ⟨L.b, 0, none⟩), .int .i64 side, .int .i64 n] w fun e w' => e = .returned (.tuple #[.int .i64 k, .int .i64 r]) ∧ TuAt w' L cap t' ∧ Keeps L.l w w' := by
  unfold Tu.move at hr
  cases hs : sideB side with
  | false =>
    rw [hs, if_neg (by simp)] at hr
    obtain ⟨⟨rfl, rfl⟩, rfl⟩ := hr170 hr
    have HB0 := Lib.hid (Blk.new2 ((w.alloc (.cells #[.pointer (some ⟨L.b, 0, none⟩)] 25)).alloc (.cells #[.int .i64 n] 3)) 3 #[.int .i64 0] (w.heap.size + 1 + 1) (by simp))
    have HO := Lib.hid (on_none L side hs)
    have HE := Lib.hid (hE.keeps ((((Keeps.refl [] w).alloc (.cells #[.pointer (some ⟨L.b, 0, none⟩)] 25)).alloc (.cells #[.int .i64 n] 3)).alloc (.cells #[.int .i64 0] 3)) (by simp))
    have HLT := Lib.hid h.lt
    have H := Lib.hid h
    have HK1 := Lib.hid (((((Keeps.refl [] w).alloc (.cells #[.pointer (some ⟨L.b, 0, none⟩)] 25)).alloc (.cells #[.int .i64 n] 3)).alloc (.cells #[.int .i64 0] 3)).mono (S' := L.l) (by simp))
    have HA := Lib.hid (h.keep ((((Keeps.refl [] w).alloc (.cells #[.pointer (some ⟨L.b, 0, none⟩)] 25)).alloc (.cells #[.int .i64 n] 3)).alloc (.cells #[.int .i64 0] 3)))
    clear hs hr hE h
    go_enter Tryz.func16, Tryz.ntmps16
    go_wp2_with (fail)
    refine (HO.out _ _).mono ?_
    rintro e w1 ⟨rfl, rfl⟩
    have HB := HB0
    have HE1 := HE
    go_wp2_with (fail)
    refine (told_any (170) _ HE1.out).mono ?_
    rintro e w2 ⟨rfl, hk⟩
    have hb2 := HB.out.keeps hk (by simp)
    have n0 := hb2.cell 0
    have nf := hb2.frozen 0
    simp only [List.getElem?_toArray, List.getElem?_cons_zero] at n0
    have n1 : (w2.setCell ⟨w.heap.size + 1 + 1, 0, none⟩ (.int .i64 0)).cell? ⟨w.heap.size + 1 + 1, 0, none⟩ = some (.int .i64 0) := World.cell?_setCell_same _ _ _ n0
    have N1 := Lib.hid n1
    have HK := Lib.hid hk
    clear hk hb2 n1
    go_wp2_with (fail)
    have n1 := N1.out
    have hk2 : Keeps [w.heap.size + 1 + 1] w2 (w2.setCell ⟨w.heap.size + 1 + 1, 0, none⟩ (.int .i64 0)) := (Keeps.refl [w.heap.size + 1 + 1] w2).setCell (p := ⟨w.heap.size + 1 + 1, 0, none⟩) (.inl (by simp)) _
    exact bodyPost_ret (v := .tuple #[.int .i64 (0 : Nat), .int .i64 170]) (by simp [results, Tryz.results16, go_sem, n1]) rfl ⟨rfl, (HA.out.keep HK.out).keeps hk2 (fun k hk hm => by simp only [List.mem_singleton] at hm; subst hm; have := HLT.out _ hk; omega), (HK1.out.trans (HK.out.mono (by simp))).trans' hk2 (fun i hi => .inr (by simp only [List.mem_singleton] at hi; omega))⟩
  | true =>
    rw [hs, if_pos rfl] at hr
    cases ho : movesB t.st with
    | false =>
      rw [ho, if_neg (by simp)] at hr
      obtain ⟨rfl, rfl, rfl⟩ := hr3 hr
      have HB0 := Lib.hid (Blk.new2 ((w.alloc (.cells #[.pointer (some ⟨L.b, 0, none⟩)] 25)).alloc (.cells #[.int .i64 n] 3)) 3 #[.int .i64 0] (w.heap.size + 1 + 1) (by simp))
      have hA : TuAt (((w.alloc (.cells #[.pointer (some ⟨L.b, 0, none⟩)] 25)).alloc (.cells #[.int .i64 n] 3)).alloc (.cells #[.int .i64 0] 3)) L cap t := h.keep ((((Keeps.refl [] w).alloc (.cells #[.pointer (some ⟨L.b, 0, none⟩)] 25)).alloc (.cells #[.int .i64 n] 3)).alloc (.cells #[.int .i64 0] 3))
      have HO := Lib.hid (on_side 38 #[.pointer (some ⟨w.heap.size, 0, none⟩), .pointer (some ⟨w.heap.size + 1, 0, none⟩), .pointer (some ⟨w.heap.size + 1 + 1, 0, none⟩)] ent_move1 L cap t side hs _ hA (errW 171) (fun w' => Keeps [] (((w.alloc (.cells #[.pointer (some ⟨L.b, 0, none⟩)] 25)).alloc (.cells #[.int .i64 n] 3)).alloc (.cells #[.int .i64 0] 3)) w') ((move1_closed (L.wl side) (w.heap.size) (w.heap.size + 1) (w.heap.size + 1 + 1) L.b t.st ho _ (((Blk.new2 w 25 #[.pointer (some ⟨L.b, 0, none⟩)] (w.heap.size) (by simp)).alloc (.cells #[.int .i64 n] 3)).alloc (.cells #[.int .i64 0] 3)) hA.c0).mono fun _ _ hq => ⟨hq.1, hq.2⟩))
      have HE := Lib.hid (hE.keeps ((((Keeps.refl [] w).alloc (.cells #[.pointer (some ⟨L.b, 0, none⟩)] 25)).alloc (.cells #[.int .i64 n] 3)).alloc (.cells #[.int .i64 0] 3)) (by simp))
      have HLT := Lib.hid h.lt
      have HA := Lib.hid hA
      have HK0 := Lib.hid ((((Keeps.refl [] w).alloc (.cells #[.pointer (some ⟨L.b, 0, none⟩)] 25)).alloc (.cells #[.int .i64 n] 3)).alloc (.cells #[.int .i64 0] 3))
      clear hs hr hE h hA ho
      go_enter Tryz.func16, Tryz.ntmps16
      go_wp2_with (fail)
      refine HO.out.mono ?_
      rintro e w1 ⟨rfl, hk⟩
      have HB := Lib.hid (HB0.out.keeps hk (by simp))
      have HE1 := Lib.hid (HE.out.keeps hk (by simp))
      have HK1 := Lib.hid ((HK0.out.trans hk).mono (S' := L.l) (by simp))
      have HA1 := Lib.hid (HA.out.keep hk)
      clear hk
      go_wp2_with (fail)
      refine (told_any (171) _ HE1.out).mono ?_
      rintro e w2 ⟨rfl, hk⟩
      have hb2 := HB.out.keeps hk (by simp)
      have n0 := hb2.cell 0
      have nf := hb2.frozen 0
      simp only [List.getElem?_toArray, List.getElem?_cons_zero] at n0
      have n1 : (w2.setCell ⟨w.heap.size + 1 + 1, 0, none⟩ (.int .i64 0)).cell? ⟨w.heap.size + 1 + 1, 0, none⟩ = some (.int .i64 0) := World.cell?_setCell_same _ _ _ n0
      have N1 := Lib.hid n1
      have HK := Lib.hid hk
      clear hk hb2 n1
      go_wp2_with (fail)
      have n1 := N1.out
      have hk2 : Keeps [w.heap.size + 1 + 1] w2 (w2.setCell ⟨w.heap.size + 1 + 1, 0, none⟩ (.int .i64 0)) := (Keeps.refl [w.heap.size + 1 + 1] w2).setCell (p := ⟨w.heap.size + 1 + 1, 0, none⟩) (.inl (by simp)) _
      exact bodyPost_ret (v := .tuple #[.int .i64 0, .int .i64 171]) (by simp [results, Tryz.results16, go_sem, n1]) rfl ⟨rfl, (HA1.out.keep HK.out).keeps hk2 (fun k hk hm => by simp only [List.mem_singleton] at hm; subst hm; have := HLT.out _ hk; omega), (HK1.out.trans (HK.out.mono (by simp))).trans' hk2 (fun i hi => .inr (by simp only [List.mem_singleton] at hi; omega))⟩
    | true =>
      rw [ho, if_pos rfl] at hr
      by_cases hn : n < 0
      · rw [if_pos hn] at hr
        obtain ⟨rfl, rfl, rfl⟩ := hr3 hr
        have HB0 := Lib.hid (Blk.new2 ((w.alloc (.cells #[.pointer (some ⟨L.b, 0, none⟩)] 25)).alloc (.cells #[.int .i64 n] 3)) 3 #[.int .i64 0] (w.heap.size + 1 + 1) (by simp))
        have hA : TuAt (((w.alloc (.cells #[.pointer (some ⟨L.b, 0, none⟩)] 25)).alloc (.cells #[.int .i64 n] 3)).alloc (.cells #[.int .i64 0] 3)) L cap t := h.keep ((((Keeps.refl [] w).alloc (.cells #[.pointer (some ⟨L.b, 0, none⟩)] 25)).alloc (.cells #[.int .i64 n] 3)).alloc (.cells #[.int .i64 0] 3))
        have HO := Lib.hid (on_side 38 #[.pointer (some ⟨w.heap.size, 0, none⟩), .pointer (some ⟨w.heap.size + 1, 0, none⟩), .pointer (some ⟨w.heap.size + 1 + 1, 0, none⟩)] ent_move1 L cap t side hs _ hA (errW 2) (fun w' => Keeps [] (((w.alloc (.cells #[.pointer (some ⟨L.b, 0, none⟩)] 25)).alloc (.cells #[.int .i64 n] 3)).alloc (.cells #[.int .i64 0] 3)) w') ((move1_arg (L.wl side) (w.heap.size) (w.heap.size + 1) (w.heap.size + 1 + 1) L.b t.st ho n hn _ (((Blk.new2 w 25 #[.pointer (some ⟨L.b, 0, none⟩)] (w.heap.size) (by simp)).alloc (.cells #[.int .i64 n] 3)).alloc (.cells #[.int .i64 0] 3)) ((Blk.new2 (w.alloc (.cells #[.pointer (some ⟨L.b, 0, none⟩)] 25)) 3 #[.int .i64 n] (w.heap.size + 1) (by simp)).alloc (.cells #[.int .i64 0] 3)) hA.c0).mono fun _ _ hq => ⟨hq.1, hq.2⟩))
        have HE := Lib.hid (hE.keeps ((((Keeps.refl [] w).alloc (.cells #[.pointer (some ⟨L.b, 0, none⟩)] 25)).alloc (.cells #[.int .i64 n] 3)).alloc (.cells #[.int .i64 0] 3)) (by simp))
        have HLT := Lib.hid h.lt
        have HA := Lib.hid hA
        have HK0 := Lib.hid ((((Keeps.refl [] w).alloc (.cells #[.pointer (some ⟨L.b, 0, none⟩)] 25)).alloc (.cells #[.int .i64 n] 3)).alloc (.cells #[.int .i64 0] 3))
        clear hs hr hE h hA ho hn
        go_enter Tryz.func16, Tryz.ntmps16
        go_wp2_with (fail)
        refine HO.out.mono ?_
        rintro e w1 ⟨rfl, hk⟩
        have HB := Lib.hid (HB0.out.keeps hk (by simp))
        have HE1 := Lib.hid (HE.out.keeps hk (by simp))
        have HK1 := Lib.hid ((HK0.out.trans hk).mono (S' := L.l) (by simp))
        have HA1 := Lib.hid (HA.out.keep hk)
        clear hk
        go_wp2_with (fail)
        refine (told_any (2) _ HE1.out).mono ?_
        rintro e w2 ⟨rfl, hk⟩
        have hb2 := HB.out.keeps hk (by simp)
        have n0 := hb2.cell 0
        have nf := hb2.frozen 0
        simp only [List.getElem?_toArray, List.getElem?_cons_zero] at n0
        have n1 : (w2.setCell ⟨w.heap.size + 1 + 1, 0, none⟩ (.int .i64 0)).cell? ⟨w.heap.size + 1 + 1, 0, none⟩ = some (.int .i64 0) := World.cell?_setCell_same _ _ _ n0
        have N1 := Lib.hid n1
        have HK := Lib.hid hk
        clear hk hb2 n1
        go_wp2_with (fail)
        have n1 := N1.out
        have hk2 : Keeps [w.heap.size + 1 + 1] w2 (w2.setCell ⟨w.heap.size + 1 + 1, 0, none⟩ (.int .i64 0)) := (Keeps.refl [w.heap.size + 1 + 1] w2).setCell (p := ⟨w.heap.size + 1 + 1, 0, none⟩) (.inl (by simp)) _
        exact bodyPost_ret (v := .tuple #[.int .i64 0, .int .i64 2]) (by simp [results, Tryz.results16, go_sem, n1]) rfl ⟨rfl, (HA1.out.keep HK.out).keeps hk2 (fun k hk hm => by simp only [List.mem_singleton] at hm; subst hm; have := HLT.out _ hk; omega), (HK1.out.trans (HK.out.mono (by simp))).trans' hk2 (fun i hi => .inr (by simp only [List.mem_singleton] at hi; omega))⟩
      · rw [if_neg hn] at hr
        obtain ⟨m, rfl⟩ : ∃ m : Nat, n = m := ⟨n.toNat, by omega⟩
        rw [Int.toNat_natCast] at hr
        obtain ⟨k, hk⟩ : ∃ k, (t.at_ side).k cap m = k := ⟨_, rfl⟩
        rw [hk] at hr
        obtain ⟨rfl, rfl, rfl⟩ := hr3 hr
        have hnb : w.heap.size + 1 + 1 ∉ L.l := fun hm => by have := h.lt _ hm; omega
        have HB0 := Lib.hid (Blk.new2 ((w.alloc (.cells #[.pointer (some ⟨L.b, 0, none⟩)] 25)).alloc (.cells #[.int .i64 (m : Int)] 3)) 3 #[.int .i64 0] (w.heap.size + 1 + 1) (by simp))
        have hA : TuAt (((w.alloc (.cells #[.pointer (some ⟨L.b, 0, none⟩)] 25)).alloc (.cells #[.int .i64 (m : Int)] 3)).alloc (.cells #[.int .i64 0] 3)) L cap t := h.keep ((((Keeps.refl [] w).alloc (.cells #[.pointer (some ⟨L.b, 0, none⟩)] 25)).alloc (.cells #[.int .i64 (m : Int)] 3)).alloc (.cells #[.int .i64 0] 3))
        have HO := Lib.hid (on_side 38 #[.pointer (some ⟨w.heap.size, 0, none⟩), .pointer (some ⟨w.heap.size + 1, 0, none⟩), .pointer (some ⟨w.heap.size + 1 + 1, 0, none⟩)] ent_move1 L cap t side hs _ hA (errW 0) (fun w' => WyAt w' (L.wl side) cap ((t.at_ side).move cap m) ∧ Blk w' (w.heap.size + 1 + 1) 3 #[.int .i64 k] ∧ Keeps ((w.heap.size + 1 + 1) :: (L.wl side).l) (((w.alloc (.cells #[.pointer (some ⟨L.b, 0, none⟩)] 25)).alloc (.cells #[.int .i64 (m : Int)] 3)).alloc (.cells #[.int .i64 0] 3)) w') (move1_any (L.wl side) cap (t.at_ side) (w.heap.size) (w.heap.size + 1) (w.heap.size + 1 + 1) L.b t.st ho m k hk 0 _ (((Blk.new2 w 25 #[.pointer (some ⟨L.b, 0, none⟩)] (w.heap.size) (by simp)).alloc (.cells #[.int .i64 (m : Int)] 3)).alloc (.cells #[.int .i64 0] 3)) ((Blk.new2 (w.alloc (.cells #[.pointer (some ⟨L.b, 0, none⟩)] 25)) 3 #[.int .i64 (m : Int)] (w.heap.size + 1) (by simp)).alloc (.cells #[.int .i64 0] 3)) (Blk.new2 ((w.alloc (.cells #[.pointer (some ⟨L.b, 0, none⟩)] 25)).alloc (.cells #[.int .i64 (m : Int)] 3)) 3 #[.int .i64 0] (w.heap.size + 1 + 1) (by simp)) (fun hm => hnb (L.wl_sub side _ hm)) hA.c0 (hA.way side)))
        have HE := Lib.hid (hE.keeps ((((Keeps.refl [] w).alloc (.cells #[.pointer (some ⟨L.b, 0, none⟩)] 25)).alloc (.cells #[.int .i64 (m : Int)] 3)).alloc (.cells #[.int .i64 0] 3)) (by simp))
        have HLT := Lib.hid h.lt
        have HA := Lib.hid hA
        have HK0 := Lib.hid ((((Keeps.refl [] w).alloc (.cells #[.pointer (some ⟨L.b, 0, none⟩)] 25)).alloc (.cells #[.int .i64 (m : Int)] 3)).alloc (.cells #[.int .i64 0] 3))
        have HOK := Lib.hid (TuOk.move (cap := cap) hA.ok side m)
        have HNB := Lib.hid hnb
        have HEL := Lib.hid (World.block_lt_of_cell? w _ hE : 0 < w.heap.size)
        clear hs hr hE h hA hnb ho hk hn
        go_enter Tryz.func16, Tryz.ntmps16
        go_wp2_with (fail)
        refine HO.out.mono ?_
        rintro e w1 ⟨rfl, hy, hb, hk⟩
        have HB := Lib.hid hb
        have HE1 := Lib.hid (HE.out.keeps hk (fun hm => by
          rcases List.mem_cons.1 hm with hm | hm
          · have := HEL.out; omega
          · exact HA.out.nz (L.wl_sub side _ hm)))
        have HA1 := Lib.hid (HA.out.setW (S := [w.heap.size + 1 + 1]) side hy hk (by simpa using HNB.out) HOK.out)
        have HK1 := Lib.hid ((HK0.out.mono (S' := L.l) (by simp)).trans' hk (fun i hi => by
          rcases List.mem_cons.1 hi with hi | hi
          · right; omega
          · left; exact L.wl_sub side _ hi))
        clear hy hb hk
        go_wp2_with (fail)
        refine (told_any (0) _ HE1.out).mono ?_
        rintro e w2 ⟨rfl, hk⟩
        have hb2 := HB.out.keeps hk (by simp)
        have n0 := hb2.cell 0
        have nf := hb2.frozen 0
        simp only [List.getElem?_toArray, List.getElem?_cons_zero] at n0
        have n1 : (w2.setCell ⟨w.heap.size + 1 + 1, 0, none⟩ (.int .i64 k)).cell? ⟨w.heap.size + 1 + 1, 0, none⟩ = some (.int .i64 k) := World.cell?_setCell_same _ _ _ n0
        have N1 := Lib.hid n1
        have HK := Lib.hid hk
        clear hk hb2 n1
        go_wp2_with (fail)
        have n1 := N1.out
        have hk2 : Keeps [w.heap.size + 1 + 1] w2 (w2.setCell ⟨w.heap.size + 1 + 1, 0, none⟩ (.int .i64 k)) := (Keeps.refl [w.heap.size + 1 + 1] w2).setCell (p := ⟨w.heap.size + 1 + 1, 0, none⟩) (.inl (by simp)) _
        exact bodyPost_ret (v := .tuple #[.int .i64 k, .int .i64 0]) (by simp [results, Tryz.results16, go_sem, n1]) rfl ⟨rfl, (HA1.out.keep HK.out).keeps hk2 (fun k hk hm => by simp only [List.mem_singleton] at hm; subst hm; have := HLT.out _ hk; omega), (HK1.out.trans (HK.out.mono (by simp))).trans' hk2 (fun i hi => .inr (by simp only [List.mem_singleton] at hi; omega))⟩

end Go.Proofs.YtollcbacpoohlaaGreatDoor
