/- The document's timer: Set. -/
import Derived.Test.YtkkajcakgihckaaTimRB
namespace Go.Proofs.Ytkkajcakgihckaa
open Go.RowKit Go.Shelf
attribute [local go_sem] Oper.semAt_some
attribute [local go_sem ↓] Go.wp_at_zero Go.wp_at_succ

theorem heap_two (w : World) (ob : Obj) (cs : Array Value) (t : TypeId) : ((w.alloc ob).alloc (.cells cs t)).heap[w.heap.size + 1]? = some (.cells cs t (0, 0)) := by
  have := heap_alloc_new (w.alloc ob) (.cells cs t)
  rwa [World.size_alloc] at this
theorem ins_none {x : Ke} : ∀ {A : List Ke}, (∀ y ∈ A, ¬ x.ahead y) → insL A x = A ++ [x]
  | [], _ => rfl
  | y :: l, h => by
    unfold insL
    rw [if_neg (h y List.mem_cons_self), ins_none (fun z hz => h z (List.mem_cons_of_mem _ hz))]
    rfl
theorem ins_new {x z : Ke} (hz : x.ahead z) : ∀ {A : List Ke}, (∀ y ∈ A, ¬ x.ahead y) → insL (A ++ [z]) x = A ++ [x] ++ [z]
  | [], _ => by simp [insL, hz]
  | y :: l, h => by
    rw [List.cons_append]
    unfold insL
    rw [if_neg (h y List.mem_cons_self), ins_new hz (fun w hw => h w (List.mem_cons_of_mem _ hw))]
    rfl
theorem ins_done {x z : Ke} : ∀ {A : List Ke}, (∃ y ∈ A, x.ahead y) → insL (A ++ [z]) x = insL A x ++ [z]
  | [], h => by obtain ⟨y, hy, _⟩ := h; cases hy
  | y :: l, h => by
    rw [List.cons_append]
    unfold insL
    by_cases hy : x.ahead y
    · rw [if_pos hy, if_pos hy]; rfl
    · rw [if_neg hy, if_neg hy]
      have h2 : ∃ y ∈ l, x.ahead y := by
        obtain ⟨z', hz', ha⟩ := h
        rcases List.mem_cons.1 hz' with rfl | h3
        · exact absurd ha hy
        · exact ⟨z', h3, ha⟩
      rw [ins_done h2]; rfl

/-- The list behind some rounds: with x in it, or not yet. -/
def insT (d : Bool) (A : List Ke) (x : Ke) : List Ke := if d then insL A x else A
def InsI (d : Bool) (A : List Ke) (x : Ke) : Prop := if d then ∃ y ∈ A, x.ahead y else ∀ y ∈ A, ¬ x.ahead y

theorem NewK.alloc {w : World} {base : Nat} {v : Value} {L : List Ke} (h : NewK w base v L) (o : Obj) : NewK (w.alloc o) base v L := World.ownsRow.alloc h o
theorem kbox_kept {wr w4 : World} {u : Value} {n : Nat} {base : Nat} {L : List Value} {cs cs2 : Array Value} (h : wr.ownsRow base 64 2 u n L) (hg : ((wr.alloc (.cells cs 64)).alloc (.cells cs2 64)).grownBy w4 u.ownBlock) : Blk w4 wr.heap.size 64 cs := by
  have hb : Blk ((wr.alloc (.cells cs 64)).alloc (.cells cs2 64)) wr.heap.size 64 cs := (Blk.new wr _ _).alloc _
  exact (hg.block _ hb.lt (fun e => by have := (h.lt _ e.symm).2; omega)).trans hb

/-- What Set leaves. -/
def RsetPost (t : Nat) (L : List Ke) (key at_ : Int) (g : Nat) (w : World) (e : Ending) (w' : World) : Prop :=
  e = .returned (.int .i64 (setA L key at_).1) ∧ ∃ u g', RtA w' t g' u (setA L key at_).2 ∧ (g' = g ∨ g' = t ∨ w.heap.size ≤ g') ∧ g' < w'.heap.size ∧ Keeps [t] w w'
theorem RsetPost.old {t g : Nat} {v : Value} {L : List Ke} {key at_ c : Int} {w : World} (h : RtA w t g v L) (hgl : g < w.heap.size) (hs : setA L key at_ = (c, L)) : RsetPost t L key at_ g w (.returned (.int .i64 c)) w :=
  ⟨by rw [hs], v, g, by rw [hs]; exact h, .inl rfl, hgl, Keeps.refl _ _⟩

/-- What Set leaves ahead of its last store's law. -/
def RsetMid (t : Nat) (L2 L3 : List Ke) (w : World) (e : Ending) (w' : World) : Prop :=
  ∃ w2 u2 g2, (RtA w2 t g2 u2 L2 ∧ Keeps [t] w w2 ∧ g2 < w2.heap.size) ∧ ∃ wr u, NewK wr w2.heap.size u L3 ∧ Keeps [] w2 wr ∧ e = .returned (.int .i64 0) ∧ w' = wr.setCell ⟨t, 0, none⟩ u

set_option maxRecDepth 100000 in
set_option maxHeartbeats 4000000 in
theorem rTset_any (t g : Nat) (v : Value) (L : List Ke) (key at_ : Int) (hgood : TiGood L) (w : World) (h : RtA w t g v L) (hgl : g < w.heap.size) :
    Calls Try.prog 24 #[.pointer (some ⟨t, 0, none⟩), .int .i64 key, .int .i64 at_] w fun e w' => RsetPost t L key at_ g w e w' := by
  have HH := Lib.hid h
  have HG := Lib.hid hgood
  by_cases hg : goodK key at_ = true
  rotate_left
  · have hs : setA L key at_ = (2, L) := by unfold setA; rw [if_neg hg]
    have HS := Lib.hid hs
    have hb : key < 0 ∨ (¬ key < 0 ∧ 1000000 < key) ∨ (¬ key < 0 ∧ ¬ 1000000 < key ∧ at_ < 0) ∨ (¬ key < 0 ∧ ¬ 1000000 < key ∧ ¬ at_ < 0 ∧ 1000000000000 < at_) := by
      have : ¬ (0 ≤ key ∧ key ≤ 1000000 ∧ 0 ≤ at_ ∧ at_ ≤ 1000000000000) := by simpa only [goodK, decide_eq_true_eq] using hg
      omega
    clear hs hg h hgood
    rcases hb with h1 | ⟨h1, h2⟩ | ⟨h1, h2, h3⟩ | ⟨h1, h2, h3, h4⟩
    all_goals
      go_enter Try.func24, Try.ntmps24
      go_wp2
      go_ret
      exact RsetPost.old HH.out hgl HS.out
  · have hgb := good_at hg
    have h1 : ¬ key < 0 := by omega
    have h2 : ¬ 1000000 < key := by omega
    have h3 : ¬ at_ < 0 := by omega
    have h4 : ¬ 1000000000000 < at_ := by omega
    have HGD := Lib.hid hg
    obtain ⟨o, ho⟩ : ∃ o, findL L key = o := ⟨_, rfl⟩
    have hFi := rTfind_any t g v L key o ho w h
    obtain ⟨ws, hws⟩ : ∃ ws, o.isSome = ws := ⟨_, rfl⟩
    obtain ⟨od, hod⟩ : ∃ od, o.getD 0 = od := ⟨_, rfl⟩
    rw [hws, hod] at hFi
    have c0 := h.head.cell 0
    simp at c0
    obtain ⟨a0, cc0, hv, _⟩ := h.ks
    obtain ⟨N, hN⟩ : ∃ N, L.length = N := ⟨_, rfl⟩
    rw [hv, hN] at c0
    have hcase : (ws = false ∧ 64 ≤ N ∧ setA L key at_ = (92, L)) ∨ (¬ (ws = false ∧ 64 ≤ N) ∧ setA L key at_ = (0, setL L key at_)) := by
      by_cases hf : findL L key = none ∧ 64 ≤ L.length
      · left
        refine ⟨by rw [← hws, ← ho, hf.1]; rfl, by omega, ?_⟩
        unfold setA; rw [if_pos hg, if_pos hf]
      · right
        refine ⟨fun hh => hf ⟨?_, by omega⟩, ?_⟩
        · rw [ho]
          cases o with
          | none => rfl
          | some z => rw [← hws] at hh; simp at hh
        · unfold setA; rw [if_pos hg, if_neg hf]
    have hCn := rTcancel_any t g v L key _ rfl w h
    have hmax := h.max
    rw [hN] at hmax
    clear ho hws hod hv hgb hg h hgood
    rcases hcase with ⟨rfl, h64, hs⟩ | ⟨hnf, hs⟩
    · have HS := Lib.hid hs
      have h64i : (64 : Int) ≤ (N : Int) := by omega
      clear hs hCn
      go_enter Try.func24, Try.ntmps24
      go_wp2_with (go_at_call 27; refine hFi.mono ?_; rintro e w1 ⟨rfl, rfl⟩)
      go_ret
      exact RsetPost.old HH.out hgl HS.out
    · have HS := Lib.hid hs
      have hguard : (ws = true) ∨ (ws = false ∧ ¬ (64 : Int) ≤ (N : Int)) := by
        cases ws with
        | true => exact .inl rfl
        | false => exact .inr ⟨rfl, fun hh => hnf ⟨rfl, by omega⟩⟩
      obtain ⟨i0, hi, hz0, hz1, hz2⟩ := info_parts tKey_info
      have hlen2 : (cancelL L key).length ≤ 64 := Nat.le_trans (List.length_filter_le _ _) HH.out.max
      have hset : insL (cancelL L key) ⟨key, at_⟩ = setL L key at_ := rfl
      obtain ⟨L2, hL2⟩ : ∃ L2, cancelL L key = L2 := ⟨_, rfl⟩
      rw [hL2] at hlen2 hset hCn
      have hsl : (setL L key at_).length ≤ 64 := by
        have := (TiGood.set HG.out key at_).le
        rwa [HS.out] at this
      have HSET := Lib.hid hset
      have HSL := Lib.hid hsl
      have HGU := Lib.hid hguard
      have htl := HH.out.head.lt
      clear hs hnf hL2 hset hsl hguard
      have hfin : Calls Try.prog 24 #[.pointer (some ⟨t, 0, none⟩), .int .i64 key, .int .i64 at_] w fun e w' => RsetMid t L2 (setL L key at_) w e w' := by
        rcases HGU.out with rfl | ⟨rfl, hng⟩
        all_goals
          go_enter Try.func24, Try.ntmps24
          go_wp2_with (first
            | (go_at_call 27; refine hFi.mono ?_; rintro e w1 ⟨rfl, rfl⟩; clear hFi)
            | (go_at_call 25; refine hCn.mono ?_; rintro e w2 ⟨rfl, u2, g2, r2, _, l2, k2⟩; clear hCn; have R2 := Lib.hid r2; have L2G := Lib.hid l2; have K2 := Lib.hid k2; clear r2 l2 k2))
          clear c0
          obtain ⟨a, c, hu2, hcc, hk⟩ := R2.out.ks
          obtain ⟨M, hM⟩ : ∃ M, L2.length = M := ⟨_, rfl⟩
          have HM := Lib.hid hM
          have HC := Lib.hid hk
          have c2 := R2.out.head.cell 0
          simp at c2
          rw [hu2, hM] at c2
          rw [hM] at hcc hlen2
          have HC2 := Lib.hid c2
          have htl2 := R2.out.head.lt
          clear hu2 hk hM
          go_loopw [9, 10, 11] (fun lv dv i wr => ∃ (k : Nat) (d : Bool), k ≤ M ∧ dv = .bool d ∧ i = .int .i64 k ∧ Hid (NewK wr w2.heap.size lv (insT d (L2.take k) ⟨key, at_⟩)) ∧ Hid (InsI d (L2.take k) ⟨key, at_⟩) ∧ Hid (Keeps [] w2 wr)) (fun _ _ i _ => M - (intOf i).toNat)
          case atStart => exact ⟨0, false, Nat.zero_le _, rfl, rfl, Lib.hid (World.ownsRow_nil _ _ _ _), Lib.hid (by intro y hy; simp at hy), Lib.hid (Keeps.refl _ _)⟩
          case round =>
            obtain ⟨k, d, hk, rfl, rfl, HR, HI, HK⟩ := hrel
            have c1 : wr.cell? ⟨t, 0, none⟩ = some (.slice a M c) := (HK.out.cell (p := ⟨t, 0, none⟩) htl2 (by simp)).trans HC2.out
            have f1 := (R2.out.head.keeps HK.out (by simp)).frozen 0
            clear c2
            by_cases hlt : k < M
            · have hkL : k < L2.length := by rw [HM.out]; exact hlt
              obtain ⟨off, rfl, hg2, hcl⟩ := HC.out (by omega)
              obtain ⟨z, hz⟩ : ∃ z, L2[k]? = some z := ⟨_, List.getElem?_eq_getElem hkL⟩
              have hze : L2[k] = z := by rw [List.getElem?_eq_getElem hkL] at hz; injection hz
              have q1 := (hcl k hkL).1
              have q2 := (hcl k hkL).2
              rw [hze] at q1 q2
              rw [← HK.out.cell (p := ⟨g2, off + k * 2, none⟩) hg2 (by simp)] at q1
              rw [← HK.out.cell (p := ⟨g2, off + k * 2 + 1, none⟩) hg2 (by simp)] at q2
              have i1 : (0 : Int) ≤ (k : Int) := by omega
              have i2 : (k : Int) < (M : Int) := by omega
              have htk := take_snoc hz
              have hsz := HK.out.size
              have hnt := World.new_ne wr ⟨t, 0, none⟩ c1
              have ck : ∀ o, (wr.alloc o).cell? ⟨t, 0, none⟩ = some (.slice (some ⟨g2, off, none⟩) M c) := fun o => cell_alloc_old c1 o
              have HTK := Lib.hid htk
              obtain ⟨n, hn⟩ : ∃ n, (insT d (L2.take k) ⟨key, at_⟩).length = n := ⟨_, rfl⟩
              have hn65 : n ≤ 65 := by
                rw [← hn]
                have : (L2.take k).length ≤ 64 := by rw [List.length_take]; omega
                unfold insT
                split
                · rw [insL_length]; omega
                · omega
              have hrow : wr.ownsRow w2.heap.size 64 2 u9 n ((insT d (L2.take k) ⟨key, at_⟩).flatMap kcells) := by
                have h5 := HR.out
                unfold NewK at h5
                rw [hn] at h5
                exact h5
              have HRW := Lib.hid hrow
              have HLN := Lib.hid hn
              have HBL := Lib.hid HR.out.block
              clear hz hze hcl hkL htk hn hrow hg2
              cases d with
              | true =>
                have hne : insT true (L2.take (k + 1)) ⟨key, at_⟩ = insT true (L2.take k) ⟨key, at_⟩ ++ [z] := by
                  rw [HTK.out]; exact ins_done HI.out
                have hii : InsI true (L2.take (k + 1)) ⟨key, at_⟩ := by
                  rw [HTK.out]
                  obtain ⟨y, hy, hya⟩ := HI.out
                  exact ⟨y, List.mem_append_left _ hy, hya⟩
                have HNE := Lib.hid hne
                have HII := Lib.hid hii
                clear hne hii
                go_wp2_with (at_builtin; refine wpList_append_lies _ rfl _ _ _ (by rfl) w2.heap.size 64 i0 _ 2 16 Try.underlying56 hi hz0 hz1 hz2 rfl (by omega) u9 n _ (by rfl) (World.ownsRow.alloc (World.ownsRow.alloc HRW.out _) _) ⟨wr.heap.size + 1, 0, none⟩ 1 1 _ (by rfl) (by rfl) (World.news_of_block (heap_two wr _ _ _)) (by simp [Value.oneCell']) (by omega) (by unfold maxLen; omega) (by omega) (by simp; omega) (wr.heap.size + 1 + 1) (by simp) ?_; intro gg cap2 w4 hown1 hgrow hat hlt2)
                go_roundw
                case rel =>
                  refine ⟨k + 1, true, by omega, rfl, by go_num, Lib.hid ?_, Lib.hid ?_, Lib.hid ?_⟩
                  · unfold NewK
                    rw [HNE.out, List.flatMap_append, List.length_append, HLN.out]
                    have e : [z].flatMap kcells = kcells z := by simp
                    rw [e]
                    exact hown1
                  · exact HII.out
                  · exact ((HK.out.alloc _).alloc _).grown hgrow (fun j hj => .inr (HBL.out j hj))
                case measure => simp [intOf]; omega
              | false =>
                have hnI : ∀ y ∈ L2.take k, ¬ (⟨key, at_⟩ : Ke).ahead y := HI.out
                by_cases hah : (⟨key, at_⟩ : Ke).ahead z
                · have hne : insT true (L2.take (k + 1)) ⟨key, at_⟩ = insT false (L2.take k) ⟨key, at_⟩ ++ [⟨key, at_⟩] ++ [z] := by
                    rw [HTK.out]; exact ins_new hah hnI
                  have hii : InsI true (L2.take (k + 1)) ⟨key, at_⟩ := by
                    rw [HTK.out]
                    exact ⟨z, by simp, hah⟩
                  have HNE := Lib.hid hne
                  have HII := Lib.hid hii
                  have hab : at_ < z.at_ ∨ (¬ at_ < z.at_ ∧ (at_ == z.at_) = true ∧ key < z.key) := by
                    unfold Ke.ahead at hah
                    rcases hah with h | ⟨h, h'⟩
                    · exact .inl h
                    · refine .inr ⟨?_, by simpa using h, h'⟩
                      dsimp only at h; omega
                  clear hne hii hah hnI
                  rcases hab with hx1 | ⟨hx1, hx2, hx3⟩
                  all_goals
                    go_wp2_with (first
                      | (at_builtin; refine wpList_append_lies _ rfl _ _ _ (by rfl) w2.heap.size 64 i0 _ 2 16 Try.underlying56 hi hz0 hz1 hz2 rfl (by omega) u9 n _ (by rfl) (World.ownsRow.alloc (World.ownsRow.alloc HRW.out _) _) ⟨wr.heap.size + 1, 0, none⟩ 1 1 _ (by rfl) (by rfl) (World.news_of_block (heap_two wr _ _ _)) (by simp [Value.oneCell']) (by omega) (by unfold maxLen; omega) (by omega) (by simp; omega) (wr.heap.size + 1 + 1) (by simp) ?_; intro gg cap2 w4 hown1 hgrow hat hlt2; have b4 := kbox_kept HRW.out hgrow; have b0 := b4.cell 0; have b1 := b4.cell 1; simp at b0 b1; have hz4 : w2.heap.size ≤ w4.heap.size := (by have := hgrow.size; simp at this; omega); have HO4 := Lib.hid hown1; have K4 : Hid (Keeps [] w2 w4) := Lib.hid (((HK.out.alloc _).alloc _).grown hgrow (fun j hj => .inr (HBL.out j hj))); have HGG : Hid (w2.heap.size ≤ gg) := Lib.hid (by rcases hat with h | h <;> first | exact HBL.out _ h | omega); have hbn : w4.heap.size ≠ wr.heap.size := World.new_ne w4 ⟨wr.heap.size, 0, none⟩ b0; clear HRW hown1 hgrow hat hlt2 b4)
                      | (at_builtin; refine wpList_append_lies _ rfl _ _ _ (by rfl) w2.heap.size 64 i0 _ 2 16 Try.underlying56 hi hz0 hz1 hz2 rfl (by omega) _ (n + 1) _ (by rfl) (World.ownsRow.alloc HO4.out _) ⟨w4.heap.size, 0, none⟩ 1 1 _ (by rfl) (by rfl) (World.news_of_block (heap_alloc_new _ _)) (by simp [Value.oneCell']) (by omega) (by unfold maxLen; omega) (by omega) (by simp; omega) (w4.heap.size + 1) (by simp) ?_; intro gg5 cap5 w5 hown5 hgrow5 hat5 hlt5))
                    go_roundw
                    case rel =>
                      refine ⟨k + 1, true, by omega, rfl, by go_num, Lib.hid ?_, Lib.hid ?_, Lib.hid ?_⟩
                      · unfold NewK
                        rw [HNE.out, List.flatMap_append, List.flatMap_append, List.length_append, List.length_append, HLN.out]
                        have e : [z].flatMap kcells = kcells z := by simp
                        have e2 : [(⟨key, at_⟩ : Ke)].flatMap kcells = kcells ⟨key, at_⟩ := by simp
                        rw [e, e2]
                        exact hown5
                      · exact HII.out
                      · exact (K4.out.alloc _).grown hgrow5 (fun j hj => .inr (by
                          obtain rfl : gg = j := by simpa [Value.ownBlock] using hj
                          exact HGG.out))
                    case measure => simp [intOf]; omega
                · have hne : insT false (L2.take (k + 1)) ⟨key, at_⟩ = insT false (L2.take k) ⟨key, at_⟩ ++ [z] := by
                    rw [HTK.out]; rfl
                  have hii : InsI false (L2.take (k + 1)) ⟨key, at_⟩ := by
                    rw [HTK.out]
                    intro y hy
                    rcases List.mem_append.1 hy with h | h
                    · exact hnI y h
                    · simp only [List.mem_singleton] at h; subst h; exact hah
                  have HNE := Lib.hid hne
                  have HII := Lib.hid hii
                  have hab : (¬ at_ < z.at_ ∧ (at_ == z.at_) = false) ∨ (¬ at_ < z.at_ ∧ (at_ == z.at_) = true ∧ ¬ key < z.key) := by
                    unfold Ke.ahead at hah
                    dsimp only at hah
                    by_cases he : at_ = z.at_
                    · exact .inr ⟨by omega, by simpa using he, by omega⟩
                    · exact .inl ⟨by omega, by simpa using he⟩
                  clear hne hii hah hnI
                  rcases hab with ⟨hx1, hx2⟩ | ⟨hx1, hx2, hx3⟩
                  all_goals
                    go_wp2_with (at_builtin; refine wpList_append_lies _ rfl _ _ _ (by rfl) w2.heap.size 64 i0 _ 2 16 Try.underlying56 hi hz0 hz1 hz2 rfl (by omega) u9 n _ (by rfl) (World.ownsRow.alloc (World.ownsRow.alloc HRW.out _) _) ⟨wr.heap.size + 1, 0, none⟩ 1 1 _ (by rfl) (by rfl) (World.news_of_block (heap_two wr _ _ _)) (by simp [Value.oneCell']) (by omega) (by unfold maxLen; omega) (by omega) (by simp; omega) (wr.heap.size + 1 + 1) (by simp) ?_; intro gg cap2 w4 hown1 hgrow hat hlt2)
                    go_roundw
                    case rel =>
                      refine ⟨k + 1, false, by omega, rfl, by go_num, Lib.hid ?_, Lib.hid ?_, Lib.hid ?_⟩
                      · unfold NewK
                        rw [HNE.out, List.flatMap_append, List.length_append, HLN.out]
                        have e : [z].flatMap kcells = kcells z := by simp
                        rw [e]
                        exact hown1
                      · exact HII.out
                      · exact ((HK.out.alloc _).alloc _).grown hgrow (fun j hj => .inr (HBL.out j hj))
                    case measure => simp [intOf]; omega
            · obtain rfl : k = M := by omega
              have hrw := HR.out
              have hii := HI.out
              rw [List.take_of_length_le (by rw [HM.out]; exact Nat.le_refl _)] at hrw hii
              cases d with
              | true =>
                have HNK : Hid (NewK wr w2.heap.size u9 (setL L key at_)) := Lib.hid (by rw [← HSET.out]; exact hrw)
                clear hrw hii HR HI
                obtain ⟨a9, c9, hv9⟩ : ∃ a9 c9, u9 = .slice a9 (setL L key at_).length c9 := by
                  obtain ⟨g9, h9, _⟩ := HNK.out.ks
                  obtain ⟨a9, c9, h9, _⟩ := h9
                  exact ⟨a9, c9, h9⟩
                subst hv9
                go_wp2
                go_ret
                exact ⟨w2, u2, g2, ⟨R2.out, K2.out, L2G.out⟩, wr, _, HNK.out, HK.out, rfl, rfl⟩
              | false =>
                have hie : setL L key at_ = L2 ++ [⟨key, at_⟩] := by rw [← HSET.out]; exact ins_none hii
                have hrow : wr.ownsRow w2.heap.size 64 2 u9 k (L2.flatMap kcells) := by
                  have h5 : NewK wr w2.heap.size u9 L2 := hrw
                  unfold NewK at h5
                  rw [HM.out] at h5
                  exact h5
                have HRW := Lib.hid hrow
                have HIE := Lib.hid hie
                have HBL := Lib.hid HR.out.block
                have hsz := HK.out.size
                have htw : t < wr.heap.size := Nat.lt_of_lt_of_le htl2 hsz
                have hcw : ∀ (W : World), Keeps (u9.ownBlock.toList) wr W → W.cell? ⟨t, 0, none⟩ = some (.slice a k c) ∧ W.frozen? ⟨t, 0, none⟩ = false := fun W hW => by
                  have hto : t ∉ u9.ownBlock.toList := fun hm => absurd (HBL.out t (by simpa using hm)) (Nat.not_le_of_lt htl2)
                  exact ⟨(hW.cell (p := ⟨t, 0, none⟩) htw hto).trans c1, ((R2.out.head.keeps HK.out (by simp)).keeps hW hto).frozen 0⟩
                have HCW := Lib.hid hcw
                clear hrw hii HR HI hie hrow hcw
                go_wp2_with (at_builtin; refine wpList_append_lies _ rfl _ _ _ (by rfl) w2.heap.size 64 i0 _ 2 16 Try.underlying56 hi hz0 hz1 hz2 rfl (by omega) u9 k _ (by rfl) (World.ownsRow.alloc HRW.out _) ⟨wr.heap.size, 0, none⟩ 1 1 _ (by rfl) (by rfl) (World.news_of_block (heap_alloc_new _ _)) (by simp [Value.oneCell']) (by omega) (by unfold maxLen; omega) (by omega) (by simp; omega) (wr.heap.size + 1) (by simp) ?_; intro gg cap2 w4 hown1 hgrow hat hlt2; have k4 : Keeps u9.ownBlock.toList wr w4 := ((Keeps.refl _ wr).alloc _).grown hgrow (fun j hj => .inl (by simp [hj])); obtain ⟨c4, f4⟩ := HCW.out w4 k4; have K4 := Lib.hid k4; have HO4 := Lib.hid hown1; clear k4 hown1 hgrow hat hlt2)
                go_ret
                refine ⟨w2, u2, g2, ⟨R2.out, K2.out, L2G.out⟩, w4, _, ?_, HK.out.trans' K4.out (fun y hy => .inr (HBL.out y (by simpa using hy))), rfl, rfl⟩
                unfold NewK
                rw [HIE.out, List.flatMap_append, List.length_append, HM.out]
                have e : [(⟨key, at_⟩ : Ke)].flatMap kcells = kcells ⟨key, at_⟩ := by simp
                rw [e]
                exact HO4.out
      refine hfin.mono ?_
      rintro e w' ⟨w2, u2, g2, ⟨r2, k2, l2⟩, wr, u, hn, kr, rfl, rfl⟩
      obtain ⟨g', h1, h2, h3, h4⟩ := rt_store r2 kr hn HSL.out
      refine ⟨by rw [HS.out], u, g', by rw [HS.out]; exact h1, ?_, h3, k2.trans h4⟩
      have := k2.size
      rcases h2 with h2 | h2
      · exact .inr (.inl h2)
      · exact .inr (.inr (by omega))
end Go.Proofs.Ytkkajcakgihckaa
