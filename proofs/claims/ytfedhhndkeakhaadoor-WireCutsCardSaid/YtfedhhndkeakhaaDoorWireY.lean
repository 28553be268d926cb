/- The walk of the wire's All. -/
import Derived.Test.YtfedhhndkeakhaaDoorWireX
import Derived.RangeFuncBox
import Derived.Deep.AppendLies
import Derived.Sort.QuietTacIn
namespace Go.Proofs.YtfedhhndkeakhaaDoor
open Go.RowKit Go.Shelf
attribute [local go_sem] Oper.semAt_some
attribute [local go_sem ↓] Go.wp_at_zero Go.wp_at_succ

def Fr.cl (f : Fr) : List Value := [.int .i64 f.kind, .int .i64 f.stream, .string f.data]
/-- The place behind the last one. -/
def lastA (l : List (Int × Fr)) : Int := (l.getLast?.map (·.1)).getD 0
theorem lastA_snoc (l : List (Int × Fr)) (x : Int × Fr) : lastA (l ++ [x]) = x.1 := by simp [lastA]
/-- All's answer. -/
def allA (s : ByteArray) : List Fr × Int × Int := ((items s).map (·.2), lastA (items s), if endE s = 2 then 0 else toldN (some (endE s)))
theorem chain_len {s : ByteArray} {q : Nat} : ∀ (L : List (Int × Fr)) (a : Int), Chain s a L q → 0 ≤ a → a ≤ s.size → a + 5 * L.length ≤ s.size
  | [], a, _, _, h => by simpa using h
  | x :: L, a, h, h0, _ => by
    have h1 := takeA_next h.1
    have h2 := chain_len L x.1 h.2 (by omega) (by omega)
    simp; omega
theorem items_len (s : ByteArray) : 5 * (items s).length ≤ s.size := by
  have := chain_len (items s) 0 (items_chain s) (Int.le_refl _) (by omega)
  omega
theorem chain_end {s : ByteArray} {q : Nat} : ∀ (L : List (Int × Fr)) (a : Int), Chain s a L q → q < 5
  | [], a, h => by obtain ⟨f, n, h⟩ := h; exact takeA_lt h _ rfl
  | x :: L, _, h => chain_end L x.1 h.2
theorem endE_lt (s : ByteArray) : endE s < 5 := chain_end _ _ (items_chain s)
theorem ownsRow_down {W : World} {b b' : Nat} {e : TypeId} {size : Nat} {v : Value} {n : Nat} {xs : List Value} (h : W.ownsRow b e size v n xs) (hb : b' ≤ b) : W.ownsRow b' e size v n xs := by
  obtain ⟨h1, h2⟩ := h
  refine ⟨h1, ?_⟩
  rcases h2 with h2 | ⟨g, cap, cur, h3, h4, h5⟩
  · exact .inl h2
  · exact .inr ⟨g, cap, cur, h3, Nat.le_trans hb h4, h5⟩
theorem below_draws {B : Nat} {w w' : World} (h : Below B w w') (n : Nat) : Below B w (w'.drewN n) := ⟨h.os, h.tape, h.output, h.size, h.block⟩
theorem frame_info : (Tryd.prog.info? 23).map (fun i => (i.zero, i.size, i.bytes)) = some (some (.agg #[.int .i64 0, .int .i64 0, .string ⟨#[]⟩]), 3, 32) := by kernel_rfl

/-- What holds between the rounds. -/
structure AllI (w : World) (s : ByteArray) (e : Nat → Addr) (pre : List (Int × Fr)) (W : World) : Prop where
  out : ∃ v, Boxed W w.heap.size 25 v ∧ W.ownsRow (w.heap.size + 5) 23 3 v pre.length (pre.flatMap fun x => x.2.cl)
  err : Blk W (w.heap.size + 1) 49 #[.nilIface]
  at_ : Blk W (w.heap.size + 2) 3 #[.int .i64 (lastA pre)]
  s_ : Blk W (w.heap.size + 3) 9 #[.string s]
  t_ : Blk W (w.heap.size + 4) 64 #[.pointer (some ⟨w.heap.size + 1, 0, none⟩)]
  env : Env W e
  below : Below w.heap.size w W
  size : w.heap.size + 5 ≤ W.heap.size

theorem AllI.kept {w : World} {s : ByteArray} {e : Nat → Addr} {pre : List (Int × Fr)} {W W' : World} {B : Nat} (h : AllI w s e pre W) (hk : Kept B W W') (hB : w.heap.size ≤ B) : AllI w s e pre W' := by
  obtain ⟨v, h1, h2⟩ := h.out
  exact ⟨⟨v, hk.cells _ _ h1 rfl, hk.ownsRow h2⟩, hk.blk h.err, hk.blk h.at_, hk.blk h.s_, hk.blk h.t_, hk.sents h.env, hk.below h.below hB (by have := h.size; omega), Nat.le_trans h.size hk.size⟩
theorem AllI.reads {w : World} {s : ByteArray} {e : Nat → Addr} {pre : List (Int × Fr)} {W : World} (h : AllI w s e pre W) : Reads (w.heap.size + 3) (w.heap.size + 4) (w.heap.size + 1) s e W :=
  ⟨h.s_.cell 0, h.t_.cell 0, ⟨_, h.err.cell 0⟩, h.err.frozen 0, h.env⟩

set_option maxRecDepth 100000 in
set_option maxHeartbeats 1000000 in
theorem all_any (s : ByteArray) (hs : s.size ≤ 1000000) (L : List Fr) (a q : Int) (hA : allA s = (L, a, q)) (w : World) (e : Nat → Addr) (he : Env w e) :
    Calls Tryd.prog 23 #[.string s] w fun r w' => ∃ v, r = .returned (.tuple #[v, .int .i64 a, .int .i64 q]) ∧ w'.ownsRow w.heap.size 23 3 v L.length (L.flatMap Fr.cl) ∧ Below w.heap.size w w' := by
  obtain ⟨i0, hi, hz0, hz1, hz2⟩ := info_parts frame_info
  refine (callsIn_wide (n := 9)).1 ?_
  have HE := Lib.hid he
  have HS := Lib.hid hs
  have HA := Lib.hid hA
  have hin := items_len s
  clear he hA
  refine callsIn_of_wp_marks Tryd.func23 rfl trivial ?_ rfl
  simp only [Tryd.ntmps23, List.size_toArray, List.length_cons, List.length_nil, Nat.reduceAdd, Nat.reduceSub, Array.replicate_succ, Array.replicate_zero, List.push_toArray, List.append_toArray, List.nil_append, List.cons_append]
  gi_wp2_with (fail)
  refine ⟨trivial, (callsIn_wide.2 (frames_any _ _ _)).mono ?_⟩
  rintro r w1 ⟨rfl, rfl⟩
  gi_wp2_with (fail)
  obtain ⟨W0, hW0⟩ : ∃ W0, (((((w.alloc (.cells #[.slice none 0 0] 25)).alloc (.cells #[.nilIface] 49)).alloc (.cells #[.int .i64 0] 3)).alloc (.cells #[.string s] 9)).alloc (.cells #[.pointer (some ⟨w.heap.size + 1, 0, none⟩)] 64)) = W0 := ⟨_, rfl⟩
  have hs0 : W0.heap.size = w.heap.size + 5 := by rw [← hW0]; simp
  have hk0 : Keeps [] w W0 := by rw [← hW0]; exact (((((Keeps.refl [] w).alloc _).alloc _).alloc _).alloc _).alloc _
  have hI0 : AllI w s e [] W0 := by
    refine ⟨⟨.slice none 0 0, ?_, World.ownsRow_nil _ _ _ _⟩, ?_, ?_, ?_, ?_, HE.out.keep hk0, hk0.below (Nat.le_refl _) (by simp), by omega⟩
    · rw [← hW0]; exact ((((Blk.new w 25 #[.slice none 0 0]).alloc _).alloc _).alloc _).alloc _
    · rw [← hW0]; exact (((blk_two w _ 49 #[.nilIface]).alloc _).alloc _).alloc _
    · rw [← hW0]
      have := blk_two (w.alloc (.cells #[.slice none 0 0] 25)) (.cells #[.nilIface] 49) 3 #[.int .i64 0]
      rw [World.size_alloc] at this
      exact (this.alloc _).alloc _
    · rw [← hW0]
      have := blk_two ((w.alloc (.cells #[.slice none 0 0] 25)).alloc (.cells #[.nilIface] 49)) (.cells #[.int .i64 0] 3) 9 #[.string s]
      simp only [World.size_alloc] at this
      exact this.alloc _
    · rw [← hW0]
      have := blk_two (((w.alloc (.cells #[.slice none 0 0] 25)).alloc (.cells #[.nilIface] 49)).alloc (.cells #[.int .i64 0] 3)) (.cells #[.string s] 9) 64 #[.pointer (some ⟨w.heap.size + 1, 0, none⟩)]
      simp only [World.size_alloc] at this
      exact this
  rw [hW0]
  have HI0 := Lib.hid hI0
  clear hW0 hk0 hI0
  refine wpIn_rangeW rfl (by omega) (gf := 40) (lb := #[.pointer (some ⟨w.heap.size + 1 + 1 + 1, 0, none⟩), .pointer (some ⟨w.heap.size + 1 + 1 + 1 + 1, 0, none⟩)]) rfl trivial (enters_of Tryd.func40 (by kernel_rfl) rfl)
    (frames_seq 8 (w.heap.size + 3) (w.heap.size + 4) (w.heap.size + 1) s (by have := HS.out; unfold maxLen; omega) e W0) (Below.refl _ _) (fun _ => rfl)
    (AllI w s e) (fun p A A' h hk => h.kept hk (by omega)) (fun p A h => h.reads) (fun A A' h => h ▸ KeepsOthers.setCell _ _ _) HI0.out
    (fun x b => { tmps := #[.string s, undef, .slice none 0 0, .int .i64 0, .int .i64 0, .pointer (some ⟨w.heap.size, 0, none⟩), .pointer (some ⟨w.heap.size + 1, 0, none⟩), .pointer (some ⟨w.heap.size + 1 + 1, 0, none⟩), .int .i64 x.1, .pointer (some ⟨b, 0, none⟩), .string s, .func (.func 40) #[] #[.pointer (some ⟨w.heap.size + 1 + 1 + 1, 0, none⟩), .pointer (some ⟨w.heap.size + 1 + 1 + 1 + 1, 0, none⟩)], .int .i64 x.1, x.2.v, undef, undef, undef, undef, undef, undef, undef, undef, undef, undef, undef, undef], defers := [] })
    (fun x => .cells x.2.cells 23) (fun _ => rfl) ?assign ?body ?done
  case assign =>
    intro l x W K hK
    unfold itemV Fr.v
    unfold Fr.v Fr.cells at hK
    gi_wp2
    exact hK
  case body =>
    rintro l pre x b W hI hlen hb hbx
    obtain ⟨v, hv, hrow⟩ := hI.out
    have hc := hv.cell
    obtain ⟨d0, d1, d2⟩ := fr_res (show Blk W b 23 x.2.cells from hbx)
    have hsz := hI.size
    have ga : W.cell? ⟨w.heap.size + 2, 0, none⟩ = some (.int .i64 (lastA pre)) := hI.at_.cell 0
    have hpl : pre.length < 200000 := by have := HS.out; omega
    have HI := Lib.hid hI
    have HV := Lib.hid hv
    have HR := Lib.hid hrow
    clear hI hrow hbx
    clear hlen hin hv hs hs0
    generalize x.2.v = fv
    gi_wp2_with (gi_at_builtin; refine wpListIn_append_own _ rfl _ _ 25 rfl (w.heap.size + 5) 23 i0 _ 3 32 Tryd.underlying25 hi hz0 hz1 hz2 rfl (by decide) _ _ _ rfl (HR.out.alloc _) ⟨W.heap.size, 0, none⟩ 1 1 x.2.cl rfl rfl (World.news_of_block (heap_alloc_new _ _)) (by simp [Value.oneCell', Fr.cl]) (by unfold maxLen; omega) (by omega) (by simp; omega) ?_; intro v' w1 hown' hgrow _; obtain ⟨g', cap', rfl⟩ := ownsRow_succ hown'; obtain ⟨hv1, hv2, hr2, hk2, hb2, hs2⟩ := appended_far HV.out HR.out (by omega) (by omega) hown' hgrow; have hc1 := hv1.cell; have hf1 := hv1.frozen; have HW := Lib.hid hs2; have HQ := Lib.hid (And.intro hv2 (And.intro hr2 (And.intro hk2 hb2))); have ga1 : (w1.setCell ⟨w.heap.size, 0, none⟩ (.slice (some ⟨g', 0, none⟩) (pre.length + 1) cap')).cell? ⟨w.heap.size + 2, 0, none⟩ = some (.int .i64 (lastA pre)) := (World.cell?_of_block (a := ⟨w.heap.size + 2, 0, none⟩) (hs2 (w.heap.size + 2) (by omega) (by omega))).trans ga; have gf1 : (w1.setCell ⟨w.heap.size, 0, none⟩ (.slice (some ⟨g', 0, none⟩) (pre.length + 1) cap')).frozen? ⟨w.heap.size + 2, 0, none⟩ = false := (World.frozen?_of_block (a := ⟨w.heap.size + 2, 0, none⟩) (hs2 (w.heap.size + 2) (by omega) (by omega))).trans (HI.out.at_.frozen 0); clear hown' hgrow hs2 hv1 hv2 hr2 hk2 hb2)
    obtain ⟨hv2, hr2, hk2, hb2⟩ := HQ.out
    have hI := HI.out
    have hsame := HW.out
    have hblk : ∀ (j : Nat) (t : TypeId) (cs : Array Value), j < w.heap.size + 5 → j ≠ w.heap.size → j ≠ w.heap.size + 2 → Blk W j t cs → Blk ((w1.setCell ⟨w.heap.size, 0, none⟩ (.slice (some ⟨g', 0, none⟩) (pre.length + 1) cap')).setCell ⟨w.heap.size + 1 + 1, 0, none⟩ (.int .i64 x.1)) j t cs := fun j t cs h1 h2 h3 h4 =>
      Blk.far ((hsame j h1 h2).trans h4) (p := ⟨w.heap.size + 1 + 1, 0, none⟩) (by dsimp only; omega) _
    have hbel : Below w.heap.size w ((w1.setCell ⟨w.heap.size, 0, none⟩ (.slice (some ⟨g', 0, none⟩) (pre.length + 1) cap')).setCell ⟨w.heap.size + 1 + 1, 0, none⟩ (.int .i64 x.1)) := (hI.below.trans hb2).setCell (p := ⟨w.heap.size + 1 + 1, 0, none⟩) (by dsimp only; omega) _
    refine ⟨hk2.trans (KeepsOthers.setCell _ _ _), ⟨_, Blk.far hv2 (p := ⟨w.heap.size + 1 + 1, 0, none⟩) (by dsimp only; omega) _, ?_⟩, hblk _ _ _ (by omega) (by omega) (by omega) hI.err, ?_, hblk _ _ _ (by omega) (by omega) (by omega) hI.s_, hblk _ _ _ (by omega) (by omega) (by omega) hI.t_, HE.out.keep (Keeps.of_below hbel []), hbel, ?_⟩
    · rw [List.length_append, List.length_singleton, List.flatMap_append]
      have e1 : [x].flatMap (fun x => x.2.cl) = x.2.cl := by simp
      rw [e1]
      exact ownsRow_setCell_below hr2 (a := ⟨w.heap.size + 1 + 1, 0, none⟩) (by dsimp only; omega) _
    · rw [lastA_snoc]
      have : Blk (w1.setCell ⟨w.heap.size, 0, none⟩ (.slice (some ⟨g', 0, none⟩) (pre.length + 1) cap')) (w.heap.size + 1 + 1) 3 #[.int .i64 (lastA pre)] := (hsame (w.heap.size + 1 + 1) (by omega) (by omega)).trans hI.at_
      exact this.set_ 0 (.int .i64 x.1)
    · have := hk2.size
      simp [World.setCell] at this ⊢
      omega
  case done =>
    rintro D qb o o0 A A' hD hqb hI hfin ho0 hoc hKD
    have HI := Lib.hid hI
    have hend := endE_lt s
    have hD3 : w.heap.size + 5 ≤ D := by omega
    have hD2 : w.heap.size ≤ D := by omega
    have hAA : Kept W0.heap.size A' (A'.putObj qb o) := Kept.put ho0 hoc hqb o
    obtain ⟨v, hv, hrow⟩ := hI.out
    have hsz := hI.size
    obtain ⟨E, hE⟩ : ∃ E, endE s = E := ⟨_, rfl⟩
    rw [hE] at hfin hend
    obtain ⟨Wf, hWf⟩ : ∃ Wf, A'.putObj qb o = Wf := ⟨_, rfl⟩
    rw [hWf] at hAA hKD
    rw [hWf]
    have hbA' : Below w.heap.size w A' := hfin ▸ hI.below.setCell (p := ⟨w.heap.size + 1, 0, none⟩) (by dsimp only; omega) _
    have hbf : Below w.heap.size w Wf := hAA.below hbA' (by omega) hbA'.size
    have b0 : Blk Wf w.heap.size 25 #[v] := hAA.blk (hfin ▸ Blk.far hv (p := ⟨w.heap.size + 1, 0, none⟩) (by dsimp only; omega) _)
    have b1 : Blk Wf (w.heap.size + 1) 49 #[errV e (some E)] := hAA.blk (hfin ▸ hI.err.set_ 0 _)
    have b2 : Blk Wf (w.heap.size + 2) 3 #[.int .i64 (lastA (items s))] := hAA.blk (hfin ▸ Blk.far hI.at_ (p := ⟨w.heap.size + 1, 0, none⟩) (by dsimp only; omega) _)
    have hrf : Wf.ownsRow (w.heap.size + 5) 23 3 v (items s).length ((items s).flatMap fun x => x.2.cl) := hAA.ownsRow (hfin ▸ ownsRow_setCell_below hrow (a := ⟨w.heap.size + 1, 0, none⟩) (by dsimp only; omega) _)
    have hEf : Env Wf e := HE.out.keep (Keeps.of_below hbf [])
    have hA := HA.out
    unfold allA at hA
    rw [hE] at hA
    obtain ⟨Ln, hLn⟩ : ∃ Ln, items s = Ln := ⟨_, rfl⟩
    rw [hLn] at hA b2 hrf
    have HB0 := Lib.hid b0
    have HB1 := Lib.hid b1
    have HB2 := Lib.hid b2
    have HRF := Lib.hid hrf
    have HEF := Lib.hid hEf
    have HBF := Lib.hid hbf
    have HKD := Lib.hid hKD
    have HAE := Lib.hid hA
    have c1 : Wf.cell? ⟨w.heap.size + 1, 0, none⟩ = some (errV e (some E)) := b1.cell 0
    have e2 := hEf.cell 2 (by simp)
    clear hin hs hs0 HI HI0 hI hfin ho0 hoc hKD hAA hv hrow hE hWf hbA' hbf b0 b1 b2 hrf hEf hA hLn hqb
    have hEx : ∀ y, some E = some y → y < 5 := fun y hy => by cases hy; exact hend
    have fin : ∀ (Wg : World) (q' : Int), q' = q → Below w.heap.size w Wg → Wg.heap[D]? = some (.deferred (some [])) → Wg.ownsRow (w.heap.size + 5) 23 3 v Ln.length (Ln.flatMap fun x => x.2.cl) →
        Value.tuple #[v, .int .i64 (lastA Ln), .int .i64 q'] = .tuple #[v, .int .i64 a, .int .i64 q] ∧ (Wg.putObj D (.deferred none)).ownsRow w.heap.size 23 3 v L.length (L.flatMap Fr.cl) ∧ Below w.heap.size w (Wg.putObj D (.deferred none)) := fun Wg q' hq hb hk hr => by
      have hA := HAE.out
      have h1 : Ln.map (·.2) = L := congrArg Prod.fst hA
      have h2 : lastA Ln = a := congrArg (fun p => p.2.1) hA
      have hkk : Kept W0.heap.size Wg (Wg.putObj D (.deferred none)) := Kept.put hk rfl hD _
      refine ⟨by rw [h2, hq], ?_, hb.trans (belowK_b (n₀ := w.heap.size) (w := w) (Nat.le_refl _) _ D _ _ hD2 hk rfl rfl)⟩
      have h3 := ownsRow_down (hkk.ownsRow hr) (b' := w.heap.size) (by omega)
      rw [← h1, List.length_map, List.flatMap_map]
      exact h3
    have HFIN := Lib.hid fin
    clear fin
    by_cases hE2 : E = 2
    · subst hE2
      have hb : (some 2 == some 2) = true := rfl
      have hq : (0 : Int) = q := congrArg (fun p => p.2.2) HAE.out
      have c0' : (Wf.setCell ⟨w.heap.size + 1, 0, none⟩ .nilIface).cell? ⟨w.heap.size, 0, none⟩ = some v := (HB0.out.far (p := ⟨w.heap.size + 1, 0, none⟩) (by dsimp only; omega) _).cell 0
      have c1' : (Wf.setCell ⟨w.heap.size + 1, 0, none⟩ .nilIface).cell? ⟨w.heap.size + 1, 0, none⟩ = some .nilIface := (HB1.out.set_ 0 .nilIface).cell 0
      have c2' : (Wf.setCell ⟨w.heap.size + 1, 0, none⟩ .nilIface).cell? ⟨w.heap.size + 1 + 1, 0, none⟩ = some (.int .i64 (lastA Ln)) := (HB2.out.far (p := ⟨w.heap.size + 1, 0, none⟩) (by dsimp only; omega) _).cell 0
      have f1 := HB1.out.frozen 0
      have hEf2 : Env (Wf.setCell ⟨w.heap.size + 1, 0, none⟩ .nilIface) e := HE.out.keep (Keeps.of_below (HBF.out.setCell (p := ⟨w.heap.size + 1, 0, none⟩) (by dsimp only; omega) _) [])
      have HEF2 := Lib.hid hEf2
      have HQ := Lib.hid hq
      clear hEf2 hq
      gi_wp2_with (fail)
      refine ⟨trivial, (callsIn_wide.2 (is_own HEF.out (some 2) 2 (by intro y hy; cases hy; simp) (by simp) true hb)).mono ?_⟩
      rintro r w2 ⟨rfl, rfl⟩
      gi_wp2_with (fail)
      refine wpIn_region_quiet_lit rfl (by kernel_rfl) (by kernel_rfl) ?_
      repeat
        (refine wpQuietIn_step (by first | quiet_asked_in | (simp [Oper.askedIn, Oper.about, Fence.wide]; done) | (unfold Oper.askedIn; intros; exact True.intro)) (fun K hK => ?_)
         go_simp
         first
           | (refine hK _ ?_; clear hK K)
           | (apply Exists.intro
              refine ⟨fun _ => ?_, hK _ ?_⟩
              (refine CallsIn.quiet_of_same ((callsIn_wide.2 (told_eq none 0 rfl e (by simp) _ (HEF2.out.keep ((Keeps.refl [] _).drewN _)))).mono fun _ _ h => ⟨h.1, h.2.symm⟩))
              clear hK K))
      refine wpQuietIn_nil ?_
      intro _ hw'
      obtain ⟨nq, hw''⟩ := hw'
      subst hw''
      gi_wp2
      refine ⟨by simp, .inl ⟨_, _, rfl, run_takeDeferred (show (World.drewN (Wf.setCell ⟨w.heap.size + 1, 0, none⟩ .nilIface) nq).heap[D]? = some (.deferred (some [])) from ((Below.heap_setCell _ _ _ _ (by dsimp only; omega)).trans HKD.out)), ?_⟩⟩
      obtain ⟨h1, h2, h3⟩ := HFIN.out (World.drewN (Wf.setCell ⟨w.heap.size + 1, 0, none⟩ .nilIface) nq) 0 HQ.out (below_draws (HBF.out.setCell (p := ⟨w.heap.size + 1, 0, none⟩) (by dsimp only; omega) _) _) ((Below.heap_setCell _ _ _ _ (by dsimp only; omega)).trans HKD.out) (ownsRow_setCell_below HRF.out (a := ⟨w.heap.size + 1, 0, none⟩) (by dsimp only; omega) _)
      exact ⟨.tuple #[v, .int .i64 (lastA Ln), .int .i64 0], by simp [results, Tryd.results23, go_sem], v, by rw [← h1], h2, h3⟩
    · have hb : (some E == some 2) = false := by simp [hE2]
      have hq : toldN (some E) = q := by
        have := congrArg (fun p => p.2.2) HAE.out
        dsimp only at this
        rw [if_neg hE2] at this; exact this
      have c0' : Wf.cell? ⟨w.heap.size, 0, none⟩ = some v := HB0.out.cell 0
      have c2' : Wf.cell? ⟨w.heap.size + 1 + 1, 0, none⟩ = some (.int .i64 (lastA Ln)) := HB2.out.cell 0
      have HQ := Lib.hid hq
      clear hq
      gi_wp2_with (fail)
      refine ⟨trivial, (callsIn_wide.2 (is_own HEF.out (some E) 2 (by intro y hy; cases hy; simp; omega) (by simp) false hb)).mono ?_⟩
      rintro r w2 ⟨rfl, rfl⟩
      gi_wp2_with (fail)
      refine wpIn_region_quiet_lit rfl (by kernel_rfl) (by kernel_rfl) ?_
      repeat
        (refine wpQuietIn_step (by first | quiet_asked_in | (simp [Oper.askedIn, Oper.about, Fence.wide]; done) | (unfold Oper.askedIn; intros; exact True.intro)) (fun K hK => ?_)
         go_simp
         first
           | (refine hK _ ?_; clear hK K)
           | (apply Exists.intro
              refine ⟨fun _ => ?_, hK _ ?_⟩
              (refine CallsIn.quiet_of_same ((callsIn_wide.2 (told_eq (some E) q HQ.out e hEx _ (HEF.out.keep ((Keeps.refl [] _).drewN _)))).mono fun _ _ h => ⟨h.1, h.2.symm⟩))
              clear hK K))
      refine wpQuietIn_nil ?_
      intro _ hw'
      obtain ⟨nq, hw''⟩ := hw'
      subst hw''
      gi_wp2
      refine ⟨by simp, .inl ⟨_, _, rfl, run_takeDeferred (show (World.drewN Wf nq).heap[D]? = some (.deferred (some [])) from (HKD.out)), ?_⟩⟩
      obtain ⟨h1, h2, h3⟩ := HFIN.out (World.drewN Wf nq) q rfl (below_draws HBF.out _) (HKD.out) HRF.out
      exact ⟨.tuple #[v, .int .i64 (lastA Ln), .int .i64 q], by simp [results, Tryd.results23, go_sem], v, by rw [← h1], h2, h3⟩
end Go.Proofs.YtfedhhndkeakhaaDoor
