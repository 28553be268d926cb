/- The walks of a tunnel's Event, Stop, Counts. -/
import Derived.Test.YtollcbacpoohlaaGreatDoorTunK
import Derived.Test.YtollcbacpoohlaaGreatDoorTunI
import Derived.Test.YtollcbacpoohlaaGreatDoorTunJ
namespace Go.Proofs.YtollcbacpoohlaaGreatDoor
open Go.RowKit
attribute [local go_sem ↓] Go.wp_at_zero Go.wp_at_succ

theorem nxt_from {s : Nat} {e : Int} {u : Nat} (h : nxt s e = some u) : s ≤ 4 := by
  unfold nxt at h
  repeat' split at h
  all_goals first | omega | cases h
theorem nextA_of {s : Nat} (hs : s ≤ 6) (e : Int) : nextA s e = match nxt s e with | some u => ((u : Int), 0) | none => (0, 140) := by
  unfold nextA
  rw [if_pos (by omega), Int.toNat_natCast]
  cases nxt s e <;> rfl
theorem TuOk.clrOk {t : Tu} {cap : Nat} (h : TuOk t) (ha : WyOk cap t.a) (hb : WyOk cap t.b) : WyOk cap t.a.clr ∧ WyOk cap t.b.clr :=
  ⟨ha.clr (h.a.imp id And.left), hb.clr (h.b.imp id And.left)⟩

theorem TuAt.setSt {w w' : World} {L : TL} {cap : Nat} {t : Tu} (h : TuAt w L cap t) (s : Nat) (hw : w' = w.setCell ⟨L.b, 0, none⟩ (.int .i64 s)) (ho : TuOk { t with st := s }) : TuAt w' L cap { t with st := s } ∧ Keeps L.l w w' := by
  subst hw
  have hk : Keeps [L.b] w (w.setCell ⟨L.b, 0, none⟩ (.int .i64 s)) := (Keeps.refl [L.b] w).setCell (p := ⟨L.b, 0, none⟩) (.inl (by simp)) _
  obtain ⟨a1, a2, a3, a4⟩ := TL.apart h.nd
  refine ⟨⟨by simpa using h.head.set_ 0 (.int .i64 s), h.a.keeps hk ?_, h.b.keeps hk ?_, h.nd, h.nz, ho⟩, hk.mono (by simpa using L.sub.2.2)⟩
  · intro k hm hn; simp only [List.mem_singleton] at hn; subst hn; exact a1 hm
  · intro k hm hn; simp only [List.mem_singleton] at hn; subst hn; exact a2 hm

/-- Both ways cleared. -/
theorem TuAt.clrd {w w' : World} {L : TL} {cap : Nat} {t : Tu} (h : TuAt w L cap t) (ha : WyAt w' L.x cap t.a.clr) (hb : WyAt w' L.y cap t.b.clr) (hk : Keeps (L.x.l ++ L.y.l) w w') (hs : 5 ≤ t.st) : TuAt w' L cap t.clr :=
  ⟨h.head.keeps hk (by obtain ⟨a1, a2, _⟩ := TL.apart h.nd; simpa using ⟨a1, a2⟩), ha, hb, h.nd, h.nz, ⟨h.ok.st, .inr ⟨rfl, hs⟩, .inr ⟨rfl, hs⟩⟩⟩

set_option maxHeartbeats 1000000 in
theorem uEvent_any (L : TL) (cap : Nat) (t t' : Tu) (e r : Int) (hr : t.event e = (r, t')) (w : World) (h : TuAt w L cap t) :
    Calls Tryz.prog 8 #[.pointer (some ⟨L.b, 0, none⟩), .int .i64 e] w fun e w' => e = .returned (.int .i64 r) ∧ TuAt w' L cap t' ∧ Keeps L.l w w' := by
  unfold Tu.event at hr
  have hn := next_any t.st e
  rw [nextA_of h.ok.st e] at hn
  have c0 := h.c0
  have H := Lib.hid h
  cases hx : nxt t.st e with
  | none =>
    rw [hx] at hr hn
    obtain ⟨rfl, rfl⟩ : (140 : Int) = r ∧ t = t' := by simpa using hr
    dsimp only at hn
    have HN := Lib.hid hn
    clear hr hn hx h
    go_enter Tryz.func8, Tryz.ntmps8
    go_wp2_with (fail)
    refine (HN.out _).mono ?_
    rintro e w1 ⟨rfl, hk⟩
    have HK := Lib.hid hk
    clear hk
    go_wp2
    go_ret
    exact ⟨rfl, H.out.keep HK.out, HK.out.mono (by simp)⟩
  | some s =>
    rw [hx] at hr hn
    dsimp only at hr hn
    have hs4 := nxt_from hx
    have hs6 := (nxt_lt hx).1
    obtain ⟨rfl, hr2⟩ : (0 : Int) = r ∧ (if s = 6 then Tu.clr { t with st := s } else { t with st := s }) = t' := by simpa using hr
    have hok : TuOk { t with st := s } := ⟨hs6, .inl (h.ok.a.resolve_right (fun hm => by omega)), .inl (h.ok.b.resolve_right (fun hm => by omega))⟩
    have HN := Lib.hid hn
    have HOK := Lib.hid hok
    have HR := Lib.hid hr2
    clear hr hn hx h hok hr2 hs4
    go_enter Tryz.func8, Tryz.ntmps8
    go_wp2_with (fail)
    refine (HN.out _).mono ?_
    rintro e w1 ⟨rfl, hk⟩
    have h1 := H.out.keep hk
    have c0 := h1.c0
    have f0 := h1.head.frozen 0
    obtain ⟨W, hW⟩ : ∃ W, w1.setCell ⟨L.b, 0, none⟩ (.int .i64 s) = W := ⟨_, rfl⟩
    obtain ⟨h2, hk2⟩ := h1.setSt s hW.symm HOK.out
    have HH := Lib.hid h2
    have HK := Lib.hid ((hk.mono (S' := L.l) (by simp)).trans hk2)
    have HW := Lib.hid hW
    clear hk h1 hW h2 hk2
    by_cases h6 : s = 6
    · subst h6
      obtain rfl : Tu.clr { t with st := 6 } = t' := by have := HR.out; rwa [if_pos rfl] at this
      obtain ⟨hca, hcb⟩ := HOK.out.clrOk HH.out.a.ok HH.out.b.ok
      have HC := Lib.hid (uclear_any L cap { t with st := 6 } _ rfl hca hcb)
      clear hca hcb
      go_wp2_with (fail)
      have hw6 : w1.setCell ⟨L.b, 0, none⟩ (.int .i64 6) = W := HW.out
      rw [hw6]
      clear hw6
      refine (HC.out _ HH.out).mono ?_
      rintro e w2 ⟨rfl, ha, hb, hk⟩
      have HF := Lib.hid (HH.out.clrd ha hb hk (by simp))
      have HKK := Lib.hid (hk.mono (S' := L.l) (fun k hm => by
        rcases List.mem_append.1 hm with hm | hm
        · exact L.sub.1 k hm
        · exact L.sub.2.1 k hm))
      clear ha hb hk
      go_wp2
      go_ret
      exact ⟨rfl, HF.out, HK.out.trans HKK.out⟩
    · obtain rfl : { t with st := s } = t' := by have := HR.out; rwa [if_neg h6] at this
      have h6' : ((s : Int) == 6) = false := by simp; omega
      clear h6
      go_wp2
      go_ret
      rw [HW.out]
      exact ⟨rfl, HH.out, HK.out⟩

set_option maxHeartbeats 1000000 in
theorem uStop_any (L : TL) (cap : Nat) (t t' : Tu) (n : Nat) (hr : t.stop = (n, t')) (w : World) (h : TuAt w L cap t) :
    Calls Tryz.prog 10 #[.pointer (some ⟨L.b, 0, none⟩)] w fun e w' => e = .returned (.int .i64 n) ∧ TuAt w' L cap t' ∧ Keeps L.l w w' := by
  unfold Tu.stop at hr
  obtain ⟨hn, rfl⟩ : t.a.i.length + t.b.i.length = n ∧ Tu.clr { t with st := if 5 ≤ t.st then t.st else 6 } = t' := by simpa using hr
  have hst := h.ok.st
  have c0 := h.c0
  have H := Lib.hid h
  have HN := Lib.hid hn
  have hi := isEnd_any t.st
  obtain ⟨hca, hcb⟩ := h.ok.clrOk h.a.ok h.b.ok
  have HCA := Lib.hid hca
  have HCB := Lib.hid hcb
  have hsub : ∀ k ∈ L.x.l ++ L.y.l, k ∈ L.l := fun k hm => by
    rcases List.mem_append.1 hm with hm | hm
    · exact L.sub.1 k hm
    · exact L.sub.2.1 k hm
  have HSB := Lib.hid hsub
  by_cases h5 : 5 ≤ t.st
  · have hb : (decide ((t.st : Int) = 5) || decide ((t.st : Int) = 6)) = true := by simp; omega
    rw [hb] at hi
    have HI := Lib.hid hi
    rw [if_pos h5]
    have H5 := Lib.hid h5
    clear h hr hn hi hca hcb hsub hb h5
    go_enter Tryz.func10, Tryz.ntmps10
    go_wp2_with (fail)
    refine (HI.out _).mono ?_
    rintro e w1 ⟨rfl, hk⟩
    have HH := Lib.hid (H.out.keep hk)
    have HK := Lib.hid (hk.mono (S' := L.l) (by simp))
    clear hk c0
    go_wp2_with (fail)
    refine (uclear_any L cap t n HN.out HCA.out HCB.out _ HH.out).mono ?_
    rintro e w2 ⟨rfl, ha, hb, hk⟩
    have HF := Lib.hid (HH.out.clrd ha hb hk H5.out)
    have HKK := Lib.hid (hk.mono (S' := L.l) HSB.out)
    clear ha hb hk
    go_wp2
    go_ret
    exact ⟨rfl, HF.out, HK.out.trans HKK.out⟩
  · have hb : (decide ((t.st : Int) = 5) || decide ((t.st : Int) = 6)) = false := by simp; omega
    rw [hb] at hi
    have HI := Lib.hid hi
    rw [if_neg h5]
    have hok : TuOk { t with st := 6 } := ⟨by simp, .inl (h.ok.a.resolve_right (fun hm => by omega)), .inl (h.ok.b.resolve_right (fun hm => by omega))⟩
    have HOK := Lib.hid hok
    clear h hr hn hi hca hcb hsub hb h5 hok
    go_enter Tryz.func10, Tryz.ntmps10
    go_wp2_with (fail)
    refine (HI.out _).mono ?_
    rintro e w1 ⟨rfl, hk⟩
    have h1 := H.out.keep hk
    have c0 := h1.c0
    have f0 := h1.head.frozen 0
    obtain ⟨W, hW⟩ : ∃ W, w1.setCell ⟨L.b, 0, none⟩ (.int .i64 6) = W := ⟨_, rfl⟩
    obtain ⟨h2, hk2⟩ := h1.setSt 6 hW.symm HOK.out
    have HH := Lib.hid h2
    have HK := Lib.hid ((hk.mono (S' := L.l) (by simp)).trans hk2)
    have HW := Lib.hid hW
    clear hk h1 hW h2 hk2
    go_wp2_with (fail)
    have hw6 : w1.setCell ⟨L.b, 0, none⟩ (.int .i64 6) = W := HW.out
    rw [hw6]
    clear hw6
    refine (uclear_any L cap { t with st := 6 } n HN.out HCA.out HCB.out _ HH.out).mono ?_
    rintro e w2 ⟨rfl, ha, hb, hk⟩
    have HF := Lib.hid (HH.out.clrd ha hb hk (by simp))
    have HKK := Lib.hid (hk.mono (S' := L.l) HSB.out)
    clear ha hb hk
    go_wp2
    go_ret
    exact ⟨rfl, HF.out, HK.out.trans HKK.out⟩
end Go.Proofs.YtollcbacpoohlaaGreatDoor
