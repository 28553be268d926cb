/- The walks of a timer's due. -/
import Derived.Test.YtkkajcakgihckaaTimK
import Derived.Test.YtkkajcakgihckaaIterE
import Derived.Sort.LoopGhostIn
namespace Go.Proofs.Ytkkajcakgihckaa
open Go.RowKit Go.Shelf
attribute [local go_sem] Oper.semAt_some
attribute [local go_sem ↓] Go.wp_at_zero Go.wp_at_succ

section
variable {w w' : World} {t n N m : Nat} {S F : List Nat} {v : Value} {f : Nat → EnB} {L : List Ke}
theorem HN.same (h : HN w S t m v N f) (hs : ∀ k ∈ S, w'.heap[k]? = w.heap[k]?) : HN w' S t m v N f := by
  refine ⟨(hs _ h.tS).trans h.head, ⟨h.row.1, ?_⟩, fun k hk => (hs _ (h.eS k hk)).trans (h.ent k hk), h.max, h.tS, h.own, h.eS⟩
  rcases h.row.2 with h1 | ⟨g, cap, cur, rfl, hb, hg, h3⟩
  · exact .inl h1
  · exact .inr ⟨g, cap, cur, rfl, hb, (hs g (h.own g rfl)).trans hg, h3⟩
theorem TiAt.same (h : TiAt w F t n L) (hs : ∀ k ∈ F, w'.heap[k]? = w.heap[k]?) : TiAt w' F t n L := by
  obtain ⟨G, h1, rfl⟩ := h
  exact ⟨G, ⟨h1.row.same (fun k hk => hs k (List.mem_cons_of_mem _ hk)), h1.heap, h1.perm, h1.good, h1.map_.same (hs _ List.mem_cons_self), h1.mS, h1.hit, h1.mis⟩, rfl⟩
end
theorem cancelL_head {k : Ke} {l : List Ke} (h : TiOk (k :: l)) : cancelL (k :: l) k.key = l := by
  have ho := h.one
  rw [List.pairwise_cons] at ho
  unfold cancelL
  rw [List.filter_cons, if_neg (by simp)]
  exact List.filter_eq_self.2 (fun x hx => by simpa using fun e => ho.1 x hx e.symm)
theorem due_split {done : List Ke} {now : Int} (h : ∀ k ∈ done, k.at_ ≤ now) (l : List Ke) : dueL (done ++ l) now = done ++ dueL l now ∧ leftL (done ++ l) now = leftL l now := by
  induction done with
  | nil => exact ⟨rfl, rfl⟩
  | cons x done ih =>
    have ih := ih (fun k hk => h k (List.mem_cons_of_mem _ hk))
    have hx := h x List.mem_cons_self
    rw [List.cons_append, dueL_cons, leftL_cons, if_pos hx, if_pos hx, ih.1, ih.2]
    exact ⟨rfl, rfl⟩

def encI (x : Int) : Array Value := #[.int .i64 x]

/-- What holds behind some rounds of due. -/
structure DuI (F : List Nat) (t n : Nat) (L : List Ke) (now : Int) (r q p : Nat) (J : List Int → World → Prop) (done L1 : List Ke) (A : World) : Prop where
  ti : TiAt A F t n L1
  r_ : Blk A r 39 #[.func (.func 15) #[.pointer (some ⟨t, 0, none⟩)] #[]]
  q_ : Blk A q 3 #[.int .i64 now]
  p_ : Blk A p 25 #[.pointer (some ⟨t, 0, none⟩)]
  j : J (keysL done) A
  split : done ++ L1 = L
  le : ∀ k ∈ done, k.at_ ≤ now

theorem DuI.keeps {F : List Nat} {t n r q p : Nat} {L done L1 : List Ke} {now : Int} {J : List Int → World → Prop} {A A' : World} (h : DuI F t n L now r q p J done L1 A) (hJ : ∀ s A A', J s A → Keeps (r :: q :: p :: F) A A' → J s A') (hk : Keeps [] A A') : DuI F t n L now r q p J done L1 A' :=
  ⟨h.ti.keeps hk (by simp), h.r_.keeps hk (by simp), h.q_.keeps hk (by simp), h.p_.keeps hk (by simp), hJ _ _ _ h.j (hk.mono (by simp)), h.split, h.le⟩

set_option maxRecDepth 100000 in
set_option maxHeartbeats 2000000 in
theorem due1_in (n l t nT r q p : Nat) (now : Int) (L : List Ke) (F : List Nat) (hd : r ∉ F ∧ q ∉ F ∧ p ∉ F) (J : List Int → World → Prop) (W : World)
    (hJ : ∀ s A A', J s A → Keeps (r :: q :: p :: F) A A' → J s A')
    (hY : ∀ pre z W1, J pre W1 → pre ++ [z] <+: keysL (dueL L now) → YieldAt Fence.wide (n - 1) Try.prog l (encI z) W1 fun e W' => e = .returned (.bool true) ∧ J (pre ++ [z]) W' ∧ W1.heap.size ≤ W'.heap.size ∧ ∀ k ∈ r :: q :: p :: F, W'.heap[k]? = W1.heap[k]?)
    (h0 : DuI F t nT L now r q p J [] L W) :
    CallsIn Fence.wide n Try.prog 41 #[.func (.yield l) #[] #[], .pointer (some ⟨r, 0, none⟩), .pointer (some ⟨q, 0, none⟩), .pointer (some ⟨p, 0, none⟩)] W fun e W' => (∃ v, e = .returned v) ∧ J (keysL (dueL L now)) W' ∧ TiAt W' F t nT (leftL L now) := by
  have HY := Lib.hid hY
  have HJ := Lib.hid hJ
  have H0 := Lib.hid h0
  have HD := Lib.hid hd
  clear hY h0 hJ hd
  have hn1 : Fence.wide.depth.isSome = true → 1 ≤ n := by intro h; cases h
  refine callsIn_of_wp Try.func41 rfl trivial ?_ rfl
  simp only [Try.ntmps41, List.size_toArray, List.length_cons, List.length_nil, Nat.reduceAdd, Nat.reduceSub, Array.replicate_succ, Array.replicate_zero, List.push_toArray, List.append_toArray, List.nil_append, List.cons_append]
  gi_wp2
  refine wpIn_scope_wide (wpIn_seq (wpIn_label ?_))
  gi_wp2
  gi_loopg [5] L.length (fun g _ wr => ∃ done L1, g = L1.length ∧ Hid (DuI F t nT L now r q p J done L1 wr))
  case atStart => exact ⟨[], L, rfl, H0⟩
  case round =>
    obtain ⟨done, L1, rfl, HI⟩ := hrel
    clear H0
    have cr := HI.out.r_.cell 0
    have cq := HI.out.q_.cell 0
    have cp := HI.out.p_.cell 0
    simp at cr cq cp
    cases L1 with
    | nil =>
      have hX := tmnext_any F t nT [] (0, 0, false) rfl wr HI.out.ti
      have hdl := due_split HI.out.le []
      have hsp := HI.out.split
      have HDL : Hid (dueL L now = done ∧ leftL L now = []) := Lib.hid (by rw [← hsp, hdl.1, hdl.2]; simp [dueL, leftL])
      clear hdl hsp
      gi_wp2_with (fail)
      refine ⟨trivial, hn1, (callsIn_wide.2 hX).mono ?_⟩
      rintro e w2 ⟨rfl, k2⟩
      have HI2 := Lib.hid (HI.out.keeps HJ.out k2)
      clear hX k2
      gi_wp2
      try rw [Exit.noGoto_normal]
      go_end0
      rw [HDL.out.1, HDL.out.2]
      exact ⟨⟨_, rfl⟩, HI2.out.j, HI2.out.ti⟩
    | cons k l1 =>
      have hX := tmnext_any F t nT (k :: l1) (k.key, k.at_, true) rfl wr HI.out.ti
      have hdl := due_split HI.out.le (k :: l1)
      rw [HI.out.split] at hdl
      rw [dueL_cons, leftL_cons] at hdl
      by_cases hle : k.at_ ≤ now
      · rw [if_pos hle, if_pos hle] at hdl
        have hcmp : ¬ now < k.at_ := by omega
        have HDL := Lib.hid hdl
        have HLE := Lib.hid hle
        clear hdl hle
        gi_wp2_with (fail)
        refine ⟨trivial, hn1, (callsIn_wide.2 hX).mono ?_⟩
        rintro e w2 ⟨rfl, k2⟩
        have HI2 := Lib.hid (HI.out.keeps HJ.out k2)
        have cq2 := HI2.out.q_.cell 0
        have cp2 := HI2.out.p_.cell 0
        simp at cq2 cp2
        clear hX k2 cr cq cp HI
        have hTI := HI2.out.ti
        obtain ⟨G, hG, hGF⟩ := hTI
        have hdl := hG.len
        rw [List.length_cons] at hdl
        obtain ⟨l0, hl0⟩ : ∃ l0, k :: l1 = (G.f 0).k :: l0 := by
          rcases hG.next with ⟨_, h⟩ | ⟨_, h⟩
          · cases h
          · exact h
        have hk0 : (G.f 0).k = k := by injection hl0 with h1 _; exact h1.symm
        obtain ⟨g, cap, hv, hR⟩ := hG.row.hr (by omega)
        rw [hdl] at hR
        have hheap := hG.heap
        rw [hdl] at hheap
        have hP := hpop_any G.S t G.m g cap l1.length G.f w2 hR hheap
        have ta := as_entry
        have HG := Lib.hid hG
        have HN := Lib.hid hdl
        have HK0 := Lib.hid hk0
        have HGF := Lib.hid hGF
        clear hG hdl hl0 hk0 hv hR hheap hGF
        gi_wp2_with (fail)
        refine ⟨trivial, hn1, (callsIn_wide.2 hP).mono ?_⟩
        rintro e w3 ⟨rfl, f1, h1, d1, p1, k1, ⟨iv, b1⟩, n1⟩
        have hFl : ∀ y ∈ G.S, y ∈ F := fun y hy => HGF.out ▸ List.mem_cons_of_mem _ hy
        have cp3 : w3.cell? ⟨p, 0, none⟩ = some (.pointer (some ⟨t, 0, none⟩)) := (HI2.out.p_.keeps k1 (fun hm => HD.out.2.2 (hFl _ hm))).cell 0
        have ct3 := h1.head.cell 1
        have cb3 := b1.cell 0
        simp only [HK0.out] at cb3
        simp at ct3 cb3
        have hgk := (goodK_wf (HG.out.good.ok.in_ k List.mem_cons_self)).1
        have hm3 := (HG.out.map_.keeps k1 HG.out.mS).keeps ((Keeps.refl [] w3).drew) (by simp)
        obtain ⟨w4, hrun, hm4, hg4⟩ := hm3.drop k.key hgk 0
        have HPK : Hid (PkE w2 w3 G.S t G.m g cap l1.length G.f f1 (G.f 0)) := Lib.hid ⟨h1, d1, p1, ⟨k1.os, k1.tape, k1.output, k1.size, k1.block⟩⟩
        have hg5 : w3.grownBy w4 (some G.m) := ⟨hg4.os, hg4.tape, hg4.output, hg4.size, hg4.block⟩
        have hend := cancel_end HG.out HN.out (Nat.succ_pos _) (congrArg Ke.key HK0.out) HPK.out hm4 hg5
        rw [HGF.out, cancelL_head HG.out.good.ok] at hend
        have hr4 := HI2.out.r_.keeps hend.2 HD.out.1
        have hq4 := HI2.out.q_.keeps hend.2 HD.out.2.1
        have hp4 := HI2.out.p_.keeps hend.2 HD.out.2.2
        have hJ4 : J (keysL done) w4 := HJ.out _ _ _ HI2.out.j (hend.2.mono (fun y hy => by simp [hy]))
        have hpre : keysL done ++ [k.key] <+: keysL (dueL L now) := by
          rw [HDL.out.1, keysL_append]
          exact ⟨keysL (dueL l1 now), by simp [keysL]⟩
        obtain ⟨fn, tmps, assign, body, hy1, hR⟩ := HY.out _ k.key _ hJ4 hpre
        simp only [encI] at hy1
        have HE := Lib.hid hend.1
        have HB4 := Lib.hid (And.intro hr4 (And.intro hq4 hp4))
        have HSP := Lib.hid HI2.out.split
        have HLS := Lib.hid HI2.out.le
        clear hend HPK h1 d1 p1 k1 b1 hm3 hm4 hg4 hg5 hgk HI2 hr4 hq4 hp4 hJ4 hpre cq2 cp2
        simp only [EnB.ptr]
        gi_wp2_with (fail)
        gi_region
        gi_wp2
        refine ⟨hn1, ?_⟩
        refine hR.mono ?_
        rintro e w5 ⟨rfl, hJ5, hs5, hsame⟩
        clear hR hy1 hrun ct3 cb3 cp3
        have HI5 : Hid (DuI F t nT L now r q p J (done ++ [k]) l1 w5) := Lib.hid ⟨HE.out.same (fun y hy => hsame y (by simp [hy])), (hsame r (by simp)).trans HB4.out.1, (hsame q (by simp)).trans HB4.out.2.1, (hsame p (by simp)).trans HB4.out.2.2,
          by rw [keysL_append]; exact hJ5, by rw [← HSP.out]; simp, fun y hy => by
            rcases List.mem_append.1 hy with h1 | h1
            · exact HLS.out y h1
            · simp only [List.mem_singleton] at h1; subst h1; exact HLE.out⟩
        clear hJ5 hs5 hsame HE HB4 HSP HLS
        gi_wp2
        gi_roundg l1.length
        case rel => exact ⟨done ++ [k], l1, rfl, HI5⟩
        case measure => simp
      · rw [if_neg hle, if_neg hle, List.append_nil] at hdl
        have hcmp : now < k.at_ := by omega
        have HDL := Lib.hid hdl
        clear hdl hle
        gi_wp2_with (fail)
        refine ⟨trivial, hn1, (callsIn_wide.2 hX).mono ?_⟩
        rintro e w2 ⟨rfl, k2⟩
        have HI2 := Lib.hid (HI.out.keeps HJ.out k2)
        have cq2 := HI2.out.q_.cell 0
        simp at cq2
        clear hX k2
        gi_wp2
        try rw [Exit.noGoto_normal]
        go_end0
        rw [HDL.out.1, HDL.out.2]
        exact ⟨⟨_, rfl⟩, HI2.out.j, HI2.out.ti⟩
end Go.Proofs.Ytkkajcakgihckaa
