/- The walks of a tunnel's Grant, Feed, Move, Drain. -/
import Derived.Test.YtollcbacpoohlaaGreatDoorTunQ
namespace Go.Proofs.YtollcbacpoohlaaGreatDoor
open Go.RowKit

theorem TuAt.lt {w : World} {L : TL} {cap : Nat} {t : Tu} (h : TuAt w L cap t) : ∀ k ∈ L.l, k < w.heap.size := by
  intro k hk
  simp only [TL.l, WL.l, List.mem_cons, List.mem_append, List.not_mem_nil, or_false] at hk
  obtain ⟨f1, A1, h1⟩ := h.a.fi
  obtain ⟨f2, A2, h2⟩ := h.a.fo
  obtain ⟨f3, A3, h3⟩ := h.b.fi
  obtain ⟨f4, A4, h4⟩ := h.b.fo
  rcases hk with rfl | (rfl | rfl | rfl | rfl | rfl) | (rfl | rfl | rfl | rfl | rfl)
  · exact h.head.lt
  · exact h.a.head.lt
  · exact h1.head.lt
  · exact h1.ring.lt
  · exact h2.head.lt
  · exact h2.ring.lt
  · exact h.b.head.lt
  · exact h3.head.lt
  · exact h3.ring.lt
  · exact h4.head.lt
  · exact h4.ring.lt

set_option maxHeartbeats 1000000 in
theorem uGrant_any (L : TL) (cap : Nat) (t t' : Tu) (side n r : Int) (hr : t.grant side n = (r, t')) (w : World) (hE : Et w) (h : TuAt w L cap t) :
    Calls Tryz.prog 15 #[.pointer (some ⟨L.b, 0, none⟩), .int .i64 side, .int .i64 n] w fun e w' => e = .returned (.int .i64 r) ∧ TuAt w' L cap t' ∧ Keeps L.l w w' := by
  unfold Tu.grant at hr
  cases hs : sideB side with
  | false =>
    rw [hs, if_neg (by simp)] at hr
    obtain ⟨rfl, rfl⟩ : (170 : Int) = r ∧ t = t' := by simpa using hr
    have HO := Lib.hid (on_none L side hs)
    have HE := Lib.hid (hE.keeps ((Keeps.refl [] w).alloc (.cells #[.int .i64 n] 3)) (by simp))
    have H := Lib.hid h
    clear hs hr hE h
    go_enter Tryz.func15, Tryz.ntmps15
    go_wp2_with (fail)
    refine (HO.out _ _).mono ?_
    rintro e w1 ⟨rfl, rfl⟩
    go_wp2_with (fail)
    refine (told_any 170 _ HE.out).mono ?_
    rintro e w2 ⟨rfl, hk⟩
    have HK := Lib.hid (((Keeps.refl [] w).alloc (.cells #[.int .i64 n] 3)).trans hk)
    clear hk
    go_wp2
    go_ret
    exact ⟨rfl, H.out.keep HK.out, HK.out.mono (by simp)⟩
  | true =>
    rw [hs, if_pos rfl] at hr
    obtain ⟨x, s, z, hx⟩ : ∃ x s z, grantA (t.at_ side).g (t.at_ side).s n = (x, s, z) := ⟨_, _, _, rfl⟩
    rw [hx] at hr
    obtain ⟨rfl, rfl⟩ : z = r ∧ t.set side ((t.at_ side).grant n) = t' := by simpa using hr
    have hA : TuAt (w.alloc (.cells #[.int .i64 n] 3)) L cap t := h.keep ((Keeps.refl [] w).alloc _)
    have HO := Lib.hid (on_side 36 #[.pointer (some ⟨w.heap.size, 0, none⟩)] ent_grant1 L cap t side hs _ hA (errW z) (fun w' => WyAt w' (L.wl side) cap ((t.at_ side).grant n) ∧ Keeps (L.wl side).l (w.alloc (.cells #[.int .i64 n] 3)) w') (grant1_any (L.wl side) cap (t.at_ side) n x s z hx w.heap.size _ (Blk.new w 3 _) (hA.way side)))
    have HE := Lib.hid (hE.keeps ((Keeps.refl [] w).alloc (.cells #[.int .i64 n] 3)) (by simp))
    have HA := Lib.hid hA
    clear hs hr hx hE h hA
    go_enter Tryz.func15, Tryz.ntmps15
    go_wp2_with (fail)
    refine HO.out.mono ?_
    rintro e w1 ⟨rfl, hy, hk⟩
    have HY := Lib.hid (HA.out.setW (S := []) side hy hk (by simp) (HA.out.ok.grant side n))
    have HK1 := Lib.hid (((Keeps.refl [] w).alloc (.cells #[.int .i64 n] 3)).mono (S' := L.l) (by simp) |>.trans (hk.mono (L.wl_sub side)))
    have HE1 := Lib.hid (HE.out.keeps hk (fun hm => HA.out.nz (L.wl_sub side _ hm)))
    clear hy hk
    go_wp2_with (fail)
    refine (told_any z _ HE1.out).mono ?_
    rintro e w2 ⟨rfl, hk⟩
    have HK := Lib.hid hk
    clear hk
    go_wp2
    go_ret
    exact ⟨rfl, HY.out.keep HK.out, HK1.out.trans (HK.out.mono (by simp))⟩
end Go.Proofs.YtollcbacpoohlaaGreatDoor
