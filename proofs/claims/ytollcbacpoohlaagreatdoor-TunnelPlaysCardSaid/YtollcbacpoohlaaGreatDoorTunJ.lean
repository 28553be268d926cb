/- The walks of a tunnel's Drain. -/
import Derived.Test.YtollcbacpoohlaaGreatDoorTunH
namespace Go.Proofs.YtollcbacpoohlaaGreatDoor
open Go.RowKit

set_option maxHeartbeats 2000000 in
theorem uDrain_any (L : TL) (cap : Nat) (t t' : Tu) (side n : Int) (q : List UInt8) (r : Int) (hr : t.drain side n = (q, r, t')) (w : World) (hE : Et w) (h : TuAt w L cap t) :
    Calls Tryz.prog 17 #[.pointer (some ⟨L.b, 0, none⟩), .int .i64 side, .int .i64 n] w fun e w' => e = .returned (.tuple #[.string (str q), .int .i64 r]) ∧ TuAt w' L cap t' ∧ Keeps L.l w w' := by
  unfold Tu.drain at hr
  cases hs : sideB side with
  | false =>
    rw [hs, if_neg (by simp)] at hr
    obtain ⟨⟨rfl, rfl⟩, rfl⟩ := hr170 hr
    have HB0 := Lib.hid (Blk.new2 (w.alloc (.cells #[.int .i64 n] 3)) 9 #[.string ⟨#[]⟩] (w.heap.size + 1) (by simp))
    have HO := Lib.hid (on_none L side hs)
    have HE := Lib.hid (hE.keeps (((Keeps.refl [] w).alloc (.cells #[.int .i64 n] 3)).alloc (.cells #[.string ⟨#[]⟩] 9)) (by simp))
    have HLT := Lib.hid h.lt
    have H := Lib.hid h
    have HK1 := Lib.hid ((((Keeps.refl [] w).alloc (.cells #[.int .i64 n] 3)).alloc (.cells #[.string ⟨#[]⟩] 9)).mono (S' := L.l) (by simp))
    have HA := Lib.hid (h.keep (((Keeps.refl [] w).alloc (.cells #[.int .i64 n] 3)).alloc (.cells #[.string ⟨#[]⟩] 9)))
    clear hs hr hE h
    go_enter Tryz.func17, Tryz.ntmps17
    go_wp2_with (fail)
    refine (HO.out _ _).mono ?_
    rintro e w1 ⟨rfl, rfl⟩
    have HB := HB0
    have HE1 := HE
    go_wp2_with (fail)
    refine (told_any (170) _ HE1.out).mono ?_
    rintro e w2 ⟨rfl, hk⟩
    have hb2 := HB.out.keeps hk (by simp)
    have n0 := hb2.cell 0
    have nf := hb2.frozen 0
    simp only [List.getElem?_toArray, List.getElem?_cons_zero] at n0
    have n1 : (w2.setCell ⟨w.heap.size + 1, 0, none⟩ (.string ⟨#[]⟩)).cell? ⟨w.heap.size + 1, 0, none⟩ = some (.string ⟨#[]⟩) := World.cell?_setCell_same _ _ _ n0
    have N1 := Lib.hid n1
    have HK := Lib.hid hk
    clear hk hb2 n1
    go_wp2_with (fail)
    have n1 := N1.out
    have hk2 : Keeps [w.heap.size + 1] w2 (w2.setCell ⟨w.heap.size + 1, 0, none⟩ (.string ⟨#[]⟩)) := (Keeps.refl [w.heap.size + 1] w2).setCell (p := ⟨w.heap.size + 1, 0, none⟩) (.inl (by simp)) _
    exact bodyPost_ret (v := .tuple #[.string ⟨#[]⟩, .int .i64 170]) (by simp [results, Tryz.results17, go_sem, n1]) rfl ⟨rfl, (HA.out.keep HK.out).keeps hk2 (fun k hk hm => by simp only [List.mem_singleton] at hm; subst hm; have := HLT.out _ hk; omega), (HK1.out.trans (HK.out.mono (by simp))).trans' hk2 (fun i hi => .inr (by simp only [List.mem_singleton] at hi; omega))⟩
  | true =>
    rw [hs, if_pos rfl] at hr
    obtain ⟨rfl, rfl, rfl⟩ := hr3 hr
    obtain ⟨s, hst⟩ : ∃ s, str ((t.at_ side).o.take n.toNat) = s := ⟨_, rfl⟩
    rw [hst]
    have hnb : w.heap.size + 1 ∉ L.l := fun hm => by have := h.lt _ hm; omega
    have HB0 := Lib.hid (Blk.new2 (w.alloc (.cells #[.int .i64 n] 3)) 9 #[.string ⟨#[]⟩] (w.heap.size + 1) (by simp))
    have hA : TuAt ((w.alloc (.cells #[.int .i64 n] 3)).alloc (.cells #[.string ⟨#[]⟩] 9)) L cap t := h.keep (((Keeps.refl [] w).alloc (.cells #[.int .i64 n] 3)).alloc (.cells #[.string ⟨#[]⟩] 9))
    have HO := Lib.hid (on_side 41 #[.pointer (some ⟨w.heap.size, 0, none⟩), .pointer (some ⟨w.heap.size + 1, 0, none⟩)] ent_drain1 L cap t side hs _ hA (errW 0) (fun w' => WyAt w' (L.wl side) cap ((t.at_ side).drain n) ∧ Blk w' (w.heap.size + 1) 9 #[.string s] ∧ Keeps ((w.heap.size + 1) :: (L.wl side).l) ((w.alloc (.cells #[.int .i64 n] 3)).alloc (.cells #[.string ⟨#[]⟩] 9)) w') (drain1_any (L.wl side) cap (t.at_ side) n s hst (w.heap.size) (w.heap.size + 1) ⟨#[]⟩ (fun hm => hnb (L.wl_sub side _ hm)) _ (hA.way side) ((Blk.new2 w 3 #[.int .i64 n] (w.heap.size) (by simp)).alloc (.cells #[.string ⟨#[]⟩] 9)) (Blk.new2 (w.alloc (.cells #[.int .i64 n] 3)) 9 #[.string ⟨#[]⟩] (w.heap.size + 1) (by simp))))
    have HE := Lib.hid (hE.keeps (((Keeps.refl [] w).alloc (.cells #[.int .i64 n] 3)).alloc (.cells #[.string ⟨#[]⟩] 9)) (by simp))
    have HLT := Lib.hid h.lt
    have HA := Lib.hid hA
    have HK0 := Lib.hid (((Keeps.refl [] w).alloc (.cells #[.int .i64 n] 3)).alloc (.cells #[.string ⟨#[]⟩] 9))
    have HOK := Lib.hid (hA.ok.drain side n)
    have HNB := Lib.hid hnb
    have HEL := Lib.hid (World.block_lt_of_cell? w _ hE : 0 < w.heap.size)
    clear hs hr hE h hA hnb hst
    go_enter Tryz.func17, Tryz.ntmps17
    go_wp2_with (fail)
    refine HO.out.mono ?_
    rintro e w1 ⟨rfl, hy, hb, hk⟩
    have HB := Lib.hid hb
    have HE1 := Lib.hid (HE.out.keeps hk (fun hm => by
      rcases List.mem_cons.1 hm with hm | hm
      · have := HEL.out; omega
      · exact HA.out.nz (L.wl_sub side _ hm)))
    have HA1 := Lib.hid (HA.out.setW (S := [w.heap.size + 1]) side hy hk (by simpa using HNB.out) HOK.out)
    have HK1 := Lib.hid ((HK0.out.mono (S' := L.l) (by simp)).trans' hk (fun i hi => by
      rcases List.mem_cons.1 hi with hi | hi
      · right; omega
      · left; exact L.wl_sub side _ hi))
    clear hy hb hk
    go_wp2_with (fail)
    refine (told_any (0) _ HE1.out).mono ?_
    rintro e w2 ⟨rfl, hk⟩
    have hb2 := HB.out.keeps hk (by simp)
    have n0 := hb2.cell 0
    have nf := hb2.frozen 0
    simp only [List.getElem?_toArray, List.getElem?_cons_zero] at n0
    have n1 : (w2.setCell ⟨w.heap.size + 1, 0, none⟩ (.string s)).cell? ⟨w.heap.size + 1, 0, none⟩ = some (.string s) := World.cell?_setCell_same _ _ _ n0
    have N1 := Lib.hid n1
    have HK := Lib.hid hk
    clear hk hb2 n1
    go_wp2_with (fail)
    have n1 := N1.out
    have hk2 : Keeps [w.heap.size + 1] w2 (w2.setCell ⟨w.heap.size + 1, 0, none⟩ (.string s)) := (Keeps.refl [w.heap.size + 1] w2).setCell (p := ⟨w.heap.size + 1, 0, none⟩) (.inl (by simp)) _
    exact bodyPost_ret (v := .tuple #[.string s, .int .i64 0]) (by simp [results, Tryz.results17, go_sem, n1]) rfl ⟨rfl, (HA1.out.keep HK.out).keeps hk2 (fun k hk hm => by simp only [List.mem_singleton] at hm; subst hm; have := HLT.out _ hk; omega), (HK1.out.trans (HK.out.mono (by simp))).trans' hk2 (fun i hi => .inr (by simp only [List.mem_singleton] at hi; omega))⟩

end Go.Proofs.YtollcbacpoohlaaGreatDoor
