/- The walks of the stream's step, Next, Run. -/
import Derived.Test.YtollcbacpoohlaaGreatDoorStreamA
import Derived.Deep.RegionHeld3
import Derived.Deep.DrawnRows
namespace Go.Proofs.YtollcbacpoohlaaGreatDoor
open Go.RowKit
attribute [local go_sem ↓] Go.wp_at_zero Go.wp_at_succ

/-- At block b lies a walker in state s. -/
def Wk (w : World) (b s : Nat) : Prop := Blk w b 92 #[.int .i64 s]
theorem Wk.c0 {w : World} {b s : Nat} (h : Wk w b s) : w.cell? ⟨b, 0, none⟩ = some (.int .i64 s) := Blk.cell h 0
theorem Wk.keeps {w w' : World} {b s : Nat} {L : List Nat} (h : Wk w b s) (hk : Keeps L w w') (hb : b ∉ L) : Wk w' b s := Blk.keeps h hk hb

def nxtS (s : Nat) (e : Int) : Nat := (nxt s e).getD s
def nxtB (s : Nat) (e : Int) : Bool := (nxt s e).isSome

theorem nxt_out {s : Nat} {e : Int} (h : e < 0 ∨ 7 ≤ e) : nxt s e = none := by
  cases hn : nxt s e with
  | none => rfl
  | some t => have := nxt_ev hn; omega

set_option maxHeartbeats 400000 in
theorem step_out (b s : Nat) (e : Int) (he : e < 0 ∨ 7 ≤ e) (w : World) (h : Wk w b s) :
    Calls Tryz.prog 45 #[.pointer (some ⟨b, 0, none⟩), .int .i64 e] w fun r w' => r = .returned (.bool false) ∧ Wk w' b s ∧ Keeps [b] w w' := by
  have H := Lib.hid h
  clear h
  rcases he with he | he
  all_goals
    go_enter Tryz.func45, Tryz.ntmps45
    go_wp2_with (fail)
    refine (events_any _).mono ?_
    rintro r w1 ⟨rfl, hk⟩
    have HK := Lib.hid hk
    clear hk
    unfold evVal
    go_wp2_with (fail)
    go_ret
    exact ⟨rfl, H.out.keeps (HK.out.alloc _) (by simp), (HK.out.alloc _).mono (by simp)⟩

theorem res_maybe (W : World) {w1 : World} (hk : Keeps [] ((W.alloc (.cells #[.int .i64 0, .int .i64 0] 116)).drew) w1) :
    w1.cell? ⟨W.heap.size, 0, none⟩ = some (.int .i64 0) ∧ w1.cell? ⟨W.heap.size, 1, none⟩ = some (.int .i64 0) ∧ w1.frozen? ⟨W.heap.size, 0, none⟩ = false ∧ w1.frozen? ⟨W.heap.size, 1, none⟩ = false :=
  res_cells0 (((Keeps.refl [] (W.alloc (.cells #[.int .i64 0, .int .i64 0] 116))).drew).trans hk)

/-- What a region of step keeps: the event's function, the walker's state, all that lay there. -/
theorem evS {W w' : World} {g b s : Nat} {e : Nat} {v : Value} (hb : Blk W g 113 evCells) (hw : Wk W b s) (hv : evCells[e]? = some v) (hk : Keeps [] W w') :
    (w'.cell? ⟨g, e, none⟩ = some v ∧ w'.cell? ⟨b, 0, none⟩ = some (.int .i64 s)) ∧ Keeps [] W w' :=
  ⟨⟨by rw [(hb.keeps hk (by simp)).cell e, hv], (hw.keeps hk (by simp)).c0⟩, hk⟩

set_option maxHeartbeats 2000000 in
theorem step_of (b s e f : Nat) (x y : Int) (he : e < 7) (hf : evCells[e]? = some (.func (.func f) #[] #[]))
    (hrun : ∀ args W, Sem.run Tryz.prog (callFunc f args) W = .ok (.enter f args) W)
    (hev : ∀ w, Calls Tryz.prog f #[.int .i64 s] w fun r w' => r = .returned (.agg #[.int .i64 x, .int .i64 y]) ∧ Keeps [] w w')
    (hxy : (x = 0 ∧ y = 0 ∧ nxtB s e = false ∧ nxtS s e = s) ∨ ((y == 0) = false ∧ (nxtS s e : Int) = y ∧ nxtB s e = true)) (w : World) (h : Wk w b s) :
    Calls Tryz.prog 45 #[.pointer (some ⟨b, 0, none⟩), .int .i64 e] w fun r w' => r = .returned (.bool (nxtB s e)) ∧ Wk w' b (nxtS s e) ∧ Keeps [b] w w' := by
  have H := Lib.hid h
  have HE := Lib.hid hev
  have HX := Lib.hid hxy
  have HF := Lib.hid hf
  have HR := Lib.hid hrun
  have he1 : (e : Int) < 7 := by omega
  have he2 : 0 ≤ (e : Int) := by omega
  clear h hev hxy hf hrun
  go_enter Tryz.func45, Tryz.ntmps45
  go_wp2_with (fail)
  refine (events_any _).mono ?_
  rintro r w1 ⟨rfl, hk⟩
  have HW := Lib.hid (H.out.keeps (hk.alloc (.cells evCells 113)) (by simp))
  have HK := Lib.hid hk
  have HB := Lib.hid (Blk.new w1 113 evCells)
  clear hk
  unfold evVal
  unfold evCells at HW HB
  go_wp2_with (fail)
  have HS := Lib.hid (fun w' => evS (w' := w') HB.out HW.out (e := e) HF.out)
  have HK2 := Lib.hid (HK.out.alloc (.cells evCells 113))
  unfold evCells at HK2
  generalize w1.alloc _ = W at HS HK2 HW HB ⊢
  refine wp_region_held_drew (S := fun w' => (w'.cell? ⟨w1.heap.size, e, none⟩ = some (.func (.func f) #[] #[]) ∧ w'.cell? ⟨b, 0, none⟩ = some (.int .i64 s)) ∧ Keeps [] W w') (by kernel_rfl) ?_ (fun hHeld => ?_)
  · (try dsimp only); (first | exact HS.out _ (Keeps.refl _ _).drew | exact HS.out _ ((Keeps.refl _ _).drew.alloc _) | exact HS.out _ ((Keeps.refl _ _).drew.trans hk) | exact HS.out _ (((Keeps.refl _ _).alloc _).drew.trans hk) | exact HS.out _ ((Keeps.refl _ _).alloc _).drew | exact HS.out _ (((Keeps.refl _ _).drew.trans hk).alloc _) | exact HS.out _ (keeps_set2 (((Keeps.refl [] W).alloc _).drew.trans hk) (Nat.le_refl _) _ _))
  refine wpAnyH_take (i := 0) (v := ?_) rfl (by kernel_rfl) (by kernel_rfl) (by kernel_rfl) (fun _ _ _ h => h) (Or.inl ⟨by rfl, ?_⟩) (by assumption) ?_
  rotate_left; · ((intro w hSw; (try dsimp only at hSw); go_simp); try with_reducible rfl)
  (try simp only [List.setIfInBounds_toArray]); (try simp only [List.set_cons_succ]); (try simp only [List.set_cons_zero])
  refine wpAnyH_take (i := 1) (v := ?_) rfl (by kernel_rfl) (by kernel_rfl) (by kernel_rfl) (fun _ _ _ h => h) (Or.inl ⟨by rfl, ?_⟩) (by assumption) ?_
  rotate_left; · ((intro w hSw; (try dsimp only at hSw); go_simp); try with_reducible rfl)
  (try simp only [List.setIfInBounds_toArray]); (try simp only [List.set_cons_succ]); (try simp only [List.set_cons_zero])
  refine wpAnyH_take (i := 2) (v := ?_) rfl (by kernel_rfl) (by kernel_rfl) (by kernel_rfl) (fun _ _ _ h => h) (Or.inl ⟨by rfl, ?_⟩) (by assumption) ?_
  rotate_left; · ((intro w hSw; (try dsimp only at hSw); go_simp); try with_reducible rfl)
  (try simp only [List.setIfInBounds_toArray]); (try simp only [List.set_cons_succ]); (try simp only [List.set_cons_zero])
  refine wpAnyH_take (i := 3) (v := ?_) rfl (by kernel_rfl) (by kernel_rfl) (by kernel_rfl) (fun _ _ _ h => h) (Or.inl ⟨by rfl, ?_⟩) (by assumption) ?_
  rotate_left; · ((intro w hSw; (try dsimp only at hSw); go_simp); try with_reducible rfl)
  (try simp only [List.setIfInBounds_toArray]); (try simp only [List.set_cons_succ]); (try simp only [List.set_cons_zero])
  refine wpAnyH_take (i := 4) (v := ?_) rfl (by kernel_rfl) (by kernel_rfl) (by kernel_rfl) (fun _ _ _ h => h) (Or.inl ⟨by rfl, ?_⟩) (by assumption) ?_
  rotate_left; · ((intro w hSw; (try dsimp only at hSw); go_simp); try with_reducible rfl)
  (try simp only [List.setIfInBounds_toArray]); (try simp only [List.set_cons_succ]); (try simp only [List.set_cons_zero])
  refine wpAnyH_take (i := 5) (v := ?_) rfl (by kernel_rfl) (by kernel_rfl) (by kernel_rfl) (fun _ _ _ h => h) (Or.inl ⟨by rfl, ?_⟩) (by assumption) ?_
  rotate_left; · ((intro w hSw; (try dsimp only at hSw); go_simp); try with_reducible rfl)
  (try simp only [List.setIfInBounds_toArray]); (try simp only [List.set_cons_succ]); (try simp only [List.set_cons_zero])
  refine wpAnyH_take (i := 6) (v := ?_) rfl (by kernel_rfl) (by kernel_rfl) (by kernel_rfl) (fun _ _ _ h => h) (Or.inl ⟨by rfl, ?_⟩) (by assumption) ?_
  rotate_left; · ((intro w hSw; (try dsimp only at hSw); go_simp); try with_reducible rfl)
  (try simp only [List.setIfInBounds_toArray]); (try simp only [List.set_cons_succ]); (try simp only [List.set_cons_zero])
  refine wpAnyH_ready (rs := [7, 8]) (by kernel_rfl) (by simp) ?_
  refine AllReadyH.cons rfl (fun K hK => ?_) ?_
  · go_simp
    rw [HR.out, Oper.upon_enter]; refine (HE.out _).mono ?_; rintro r w' ⟨rfl, hk⟩; (try dsimp only [Act.put])
    refine hK.out _ _ ?_ (fun hHeld => ?_)
    · (try dsimp only); (first | exact HS.out _ (Keeps.refl _ _).drew | exact HS.out _ ((Keeps.refl _ _).drew.alloc _) | exact HS.out _ ((Keeps.refl _ _).drew.trans hk) | exact HS.out _ (((Keeps.refl _ _).alloc _).drew.trans hk) | exact HS.out _ ((Keeps.refl _ _).alloc _).drew | exact HS.out _ (((Keeps.refl _ _).drew.trans hk).alloc _) | exact HS.out _ (keeps_set2 (((Keeps.refl [] W).alloc _).drew.trans hk) (Nat.le_refl _) _ _))
    clear hK K
    (try simp only [List.setIfInBounds_toArray]); (try simp only [List.set_cons_succ]); (try simp only [List.set_cons_zero])
    refine wpAnyH_ready (rs := [8]) (by kernel_rfl) (by simp) ?_
    refine AllReadyH.cons rfl (fun K hK => ?_) ?_
    · go_simp
      refine hK.out _ _ ?_ (fun hHeld => ?_)
      · (try dsimp only); (first | exact HS.out _ (Keeps.refl _ _).drew | exact HS.out _ ((Keeps.refl _ _).drew.alloc _) | exact HS.out _ ((Keeps.refl _ _).drew.trans hk) | exact HS.out _ (((Keeps.refl _ _).alloc _).drew.trans hk) | exact HS.out _ ((Keeps.refl _ _).alloc _).drew | exact HS.out _ (((Keeps.refl _ _).drew.trans hk).alloc _) | exact HS.out _ (keeps_set2 (((Keeps.refl [] W).alloc _).drew.trans hk) (Nat.le_refl _) _ _))
      clear hK K
      (try simp only [List.setIfInBounds_toArray]); (try simp only [List.set_cons_succ]); (try simp only [List.set_cons_zero])
      refine wpAnyH_ready (rs := [9]) (by kernel_rfl) (by simp) ?_
      refine AllReadyH.cons rfl (fun K hK => ?_) ?_
      · go_simp
        refine hK.out _ _ ?_ (fun hHeld => ?_)
        · (try dsimp only); (first | exact HS.out _ (Keeps.refl _ _).drew | exact HS.out _ ((Keeps.refl _ _).drew.alloc _) | exact HS.out _ ((Keeps.refl _ _).drew.trans hk) | exact HS.out _ (((Keeps.refl _ _).alloc _).drew.trans hk) | exact HS.out _ ((Keeps.refl _ _).alloc _).drew | exact HS.out _ (((Keeps.refl _ _).drew.trans hk).alloc _) | exact HS.out _ (keeps_set2 (((Keeps.refl [] W).alloc _).drew.trans hk) (Nat.le_refl _) _ _))
        clear hK K
        (try simp only [List.setIfInBounds_toArray]); (try simp only [List.set_cons_succ]); (try simp only [List.set_cons_zero])
        refine wpAnyH_done (by kernel_rfl) ?_ _
        have hb2 := Blk.new w' 116 #[.int .i64 x, .int .i64 y]
        have hw2 := HW.out.keeps hHeld.2 (by simp)
        have d0 := hb2.cell 0
        have d1 := hb2.cell 1
        have e0 := hw2.c0
        have fe := Blk.frozen hw2 0
        have HK3 := Lib.hid (HK2.out.trans hHeld.2)
        have HW3 := Lib.hid hw2
        clear hb2 hw2 hHeld hk
        generalize w'.alloc (.cells #[.int .i64 x, .int .i64 y] 116) = W2 at d0 d1 e0 fe HK3 HW3 ⊢
        have d0 : W2.cell? ⟨w'.heap.size, 0, none⟩ = some (.int .i64 x) := d0
        have d1 : W2.cell? ⟨w'.heap.size, 1, none⟩ = some (.int .i64 y) := d1
        rcases HX.out with ⟨rfl, rfl, hB, hS⟩ | ⟨hy, hS, hB⟩
        · have HBS := Lib.hid (And.intro hB hS)
          clear hB hS HX HE HS HF HR
          go_wp2
          go_ret
          rw [HBS.out.1, HBS.out.2]
          exact ⟨rfl, HW3.out, HK3.out.mono (by simp)⟩
        · have HBS := Lib.hid (And.intro hB hS)
          clear hB hS HX HE HS HF HR
          go_wp2
          go_ret
          rw [HBS.out.1]
          refine ⟨rfl, ?_, (HK3.out.mono (S' := [b]) (by simp)).setCell (p := ⟨b, 0, none⟩) (.inl (by simp)) _⟩
          have := HW3.out.set_ 0 (.int .i64 y)
          rw [← HBS.out.2] at this ⊢
          exact this
      exact AllReadyH.nil
    exact AllReadyH.nil
  refine AllReadyH.cons rfl (fun K hK => ?_) ?_
  · go_simp
    refine hK.out _ _ ?_ (fun hHeld => ?_)
    · (try dsimp only); (first | exact HS.out _ (Keeps.refl _ _).drew | exact HS.out _ ((Keeps.refl _ _).drew.alloc _) | exact HS.out _ ((Keeps.refl _ _).drew.trans hk) | exact HS.out _ (((Keeps.refl _ _).alloc _).drew.trans hk) | exact HS.out _ ((Keeps.refl _ _).alloc _).drew | exact HS.out _ (((Keeps.refl _ _).drew.trans hk).alloc _) | exact HS.out _ (keeps_set2 (((Keeps.refl [] W).alloc _).drew.trans hk) (Nat.le_refl _) _ _))
    clear hK K
    (try simp only [List.setIfInBounds_toArray]); (try simp only [List.set_cons_succ]); (try simp only [List.set_cons_zero])
    refine wpAnyH_ready (rs := [7]) (by kernel_rfl) (by simp) ?_
    refine AllReadyH.cons rfl (fun K hK => ?_) ?_
    · go_simp
      rw [HR.out, Oper.upon_enter]; refine (HE.out _).mono ?_; rintro r w' ⟨rfl, hk⟩; (try dsimp only [Act.put])
      have hc := res_maybe W hk; obtain ⟨c0, c1, f0, f1⟩ := hc
      refine hK.out _ _ ?_ (fun hHeld => ?_)
      · (try dsimp only); (first | exact HS.out _ (Keeps.refl _ _).drew | exact HS.out _ ((Keeps.refl _ _).drew.alloc _) | exact HS.out _ ((Keeps.refl _ _).drew.trans hk) | exact HS.out _ (((Keeps.refl _ _).alloc _).drew.trans hk) | exact HS.out _ ((Keeps.refl _ _).alloc _).drew | exact HS.out _ (((Keeps.refl _ _).drew.trans hk).alloc _) | exact HS.out _ (keeps_set2 (((Keeps.refl [] W).alloc _).drew.trans hk) (Nat.le_refl _) _ _))
      clear hK K
      (try simp only [List.setIfInBounds_toArray]); (try simp only [List.set_cons_succ]); (try simp only [List.set_cons_zero])
      refine wpAnyH_ready (rs := [9]) (by kernel_rfl) (by simp) ?_
      refine AllReadyH.cons rfl (fun K hK => ?_) ?_
      · go_simp
        refine hK.out _ _ ?_ (fun hHeld => ?_)
        · (try dsimp only); (first | exact HS.out _ (Keeps.refl _ _).drew | exact HS.out _ ((Keeps.refl _ _).drew.alloc _) | exact HS.out _ ((Keeps.refl _ _).drew.trans hk) | exact HS.out _ (((Keeps.refl _ _).alloc _).drew.trans hk) | exact HS.out _ ((Keeps.refl _ _).alloc _).drew | exact HS.out _ (((Keeps.refl _ _).drew.trans hk).alloc _) | exact HS.out _ (keeps_set2 (((Keeps.refl [] W).alloc _).drew.trans hk) (Nat.le_refl _) _ _))
        clear hK K
        (try simp only [List.setIfInBounds_toArray]); (try simp only [List.set_cons_succ]); (try simp only [List.set_cons_zero])
        refine wpAnyH_done (by kernel_rfl) ?_ _
        have hb2 := (((Blk.new W 116 #[.int .i64 0, .int .i64 0]).keeps ((Keeps.refl [] _).drew.trans hk) (by simp)).set_ 0 (.int .i64 x)).set_ 1 (.int .i64 y)
        clear c0 c1 f0 f1
        have hw2 := HW.out.keeps hHeld.2 (by simp)
        have d0 := hb2.cell 0
        have d1 := hb2.cell 1
        have e0 := hw2.c0
        have fe := Blk.frozen hw2 0
        have HK3 := Lib.hid (HK2.out.trans hHeld.2)
        have HW3 := Lib.hid hw2
        clear hb2 hw2 hHeld hk
        generalize (w'.setCell ⟨W.heap.size, 0, none⟩ (.int .i64 x)).setCell ⟨W.heap.size, 1, none⟩ (.int .i64 y) = W2 at d0 d1 e0 fe HK3 HW3 ⊢
        have d0 : W2.cell? ⟨W.heap.size, 0, none⟩ = some (.int .i64 x) := d0
        have d1 : W2.cell? ⟨W.heap.size, 1, none⟩ = some (.int .i64 y) := d1
        rcases HX.out with ⟨rfl, rfl, hB, hS⟩ | ⟨hy, hS, hB⟩
        · have HBS := Lib.hid (And.intro hB hS)
          clear hB hS HX HE HS HF HR
          go_wp2
          go_ret
          rw [HBS.out.1, HBS.out.2]
          exact ⟨rfl, HW3.out, HK3.out.mono (by simp)⟩
        · have HBS := Lib.hid (And.intro hB hS)
          clear hB hS HX HE HS HF HR
          go_wp2
          go_ret
          rw [HBS.out.1]
          refine ⟨rfl, ?_, (HK3.out.mono (S' := [b]) (by simp)).setCell (p := ⟨b, 0, none⟩) (.inl (by simp)) _⟩
          have := HW3.out.set_ 0 (.int .i64 y)
          rw [← HBS.out.2] at this ⊢
          exact this
      exact AllReadyH.nil
    exact AllReadyH.nil
  exact AllReadyH.nil
theorem mv_out (s : Nat) (e : Int) : ((mv s e).1 = 0 ∧ (mv s e).2 = 0 ∧ nxtB s e = false ∧ nxtS s e = s) ∨ (((mv s e).2 == 0) = false ∧ (nxtS s e : Int) = (mv s e).2 ∧ nxtB s e = true) := by
  cases hn : nxt s e with
  | none => left; simp [mv, nxtB, nxtS, hn]
  | some t =>
    right
    have := (nxt_lt hn).2
    simp [mv, nxtB, nxtS, hn]
    omega
theorem enters {f : FuncId} {fn : Func} {c : Code} (hf : Tryz.prog.funcs[f]? = some fn) (hname : (fn.name == "runtime.NumGoroutine") = false) (hb : fn.body = some c) (args : Array Value) (w : World) :
    (callFunc f args).run Tryz.prog w = .ok (.enter f args) w := by
  have h1 : fn.name ≠ "runtime.NumGoroutine" := by simpa using hname
  simp [callFunc, hf, h1, hb]

set_option maxRecDepth 100000 in
theorem step_any (b s : Nat) (e : Int) (hs : s ≤ 6) (w : World) (h : Wk w b s) :
    Calls Tryz.prog 45 #[.pointer (some ⟨b, 0, none⟩), .int .i64 e] w fun r w' => r = .returned (.bool (nxtB s e)) ∧ Wk w' b (nxtS s e) ∧ Keeps [b] w w' := by
  by_cases he : e < 0 ∨ 7 ≤ e
  · refine (step_out b s e he w h).mono ?_
    rintro r w' ⟨rfl, h1, h2⟩
    have := nxt_out (s := s) he
    rw [show nxtB s e = false by simp [nxtB, this], show nxtS s e = s by simp [nxtS, this]]
    exact ⟨rfl, h1, h2⟩
  · have hc : e = ((0 : Nat) : Int) ∨ e = ((1 : Nat) : Int) ∨ e = ((2 : Nat) : Int) ∨ e = ((3 : Nat) : Int) ∨ e = ((4 : Nat) : Int) ∨ e = ((5 : Nat) : Int) ∨ e = ((6 : Nat) : Int) := by omega
    rcases hc with rfl | rfl | rfl | rfl | rfl | rfl | rfl
    · exact step_of b s 0 90 _ _ (by omega) rfl (enters rfl rfl rfl) (none_any s) (.inl ⟨rfl, rfl, by unfold nxtB nxt; simp, by unfold nxtS nxt; simp⟩) w h
    · exact step_of b s 1 91 _ _ (by omega) rfl (enters rfl rfl rfl) (open_any s _ rfl hs) (mv_out s _) w h
    · exact step_of b s 2 92 _ _ (by omega) rfl (enters rfl rfl rfl) (accept_any s _ rfl hs) (mv_out s _) w h
    · exact step_of b s 3 93 _ _ (by omega) rfl (enters rfl rfl rfl) (refuse_any s _ rfl hs) (mv_out s _) w h
    · exact step_of b s 4 94 _ _ (by omega) rfl (enters rfl rfl rfl) (endIn_any s _ rfl hs) (mv_out s _) w h
    · exact step_of b s 5 95 _ _ (by omega) rfl (enters rfl rfl rfl) (endOut_any s _ rfl hs) (mv_out s _) w h
    · exact step_of b s 6 96 _ _ (by omega) rfl (enters rfl rfl rfl) (reset_any s _ rfl hs) (mv_out s _) w h
end Go.Proofs.YtollcbacpoohlaaGreatDoor
