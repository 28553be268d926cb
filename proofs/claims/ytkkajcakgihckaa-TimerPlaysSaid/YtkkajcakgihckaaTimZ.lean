/- A timer that a law made: its calls; the law's shown. -/
import Derived.Test.YtkkajcakgihckaaTimY
namespace Go.Proofs.Ytkkajcakgihckaa
open Go.RowKit Go.Shelf
attribute [local go_sem] Oper.semAt_some
attribute [local go_sem ↓] Go.wp_at_zero Go.wp_at_succ

/-- A timer that was made since w0, and lies in the blocks F. -/
structure OwnF (w0 w : World) (F : List Nat) (t n : Nat) (L : List Ke) : Prop where
  ti : TiAt w F t n L
  lo : ∀ y ∈ F, w0.heap.size ≤ y
  hi : ∀ y ∈ F, y < w.heap.size
  k : Keeps [] w0 w

section
variable {w0 w w' : World} {F : List Nat} {t n : Nat} {L : List Ke}
theorem OwnF.keeps (h : OwnF w0 w F t n L) (hk : Keeps [] w w') : OwnF w0 w' F t n L :=
  ⟨h.ti.keeps hk (by simp), h.lo, fun y hy => Nat.lt_of_lt_of_le (h.hi y hy) hk.size, h.k.trans hk⟩
theorem OwnF.mono {n' : Nat} (h : OwnF w0 w F t n L) (hn : n ≤ n') : OwnF w0 w F t n' L := ⟨h.ti.mono hn, h.lo, h.hi, h.k⟩
theorem OwnF.turn {n' : Nat} {L' : List Ke} (h : OwnF w0 w F t n L) (h' : TiAt w' F t n' L') (hk : Keeps F w w') : OwnF w0 w' F t n' L' :=
  ⟨h', h.lo, fun y hy => Nat.lt_of_lt_of_le (h.hi y hy) hk.size, h.k.trans' hk (fun y hy => .inr (h.lo y hy))⟩
theorem OwnF.turn' {n' : Nat} {L' : List Ke} {F' : List Nat} (h : OwnF w0 w F t n L) (h' : TiAt w' F' t n' L') (hF : ∀ y ∈ F', y ∈ F ∨ w.heap.size ≤ y) (hk : Keeps F w w') : ∃ F2, OwnF w0 w' F2 t n' L' := by
  obtain ⟨F2, h1, h2, h3, _⟩ := h'.trim
  refine ⟨F2, h1, fun y hy => ?_, h3, h.k.trans' hk (fun y hy => .inr (h.lo y hy))⟩
  rcases hF y (h2 y hy) with h4 | h4
  · exact h.lo y h4
  · have := h.k.size; omega
theorem OwnF.good (h : OwnF w0 w F t n L) : TiGood L := h.ti.good

theorem own_new (w0 w : World) (hk : Keeps [] w0 w) : Calls Try.prog 11 #[] w fun e w' => e = .returned (.pointer (some ⟨w.heap.size + 1, 0, none⟩)) ∧ OwnF w0 w' [w.heap.size, w.heap.size + 1] (w.heap.size + 1) 0 [] :=
  (tmnew_any w).mono fun e w' ⟨h1, h2, h3⟩ => ⟨h1, h2, fun y hy => by
    have := hk.size
    simp only [List.mem_cons, List.not_mem_nil, or_false] at hy
    omega, fun y hy => by
    obtain ⟨G, hG, hF⟩ := h2
    have h4 := hG.map_.lt
    have h5 := hG.row.head.lt
    unfold TiG.F at hF
    injection hF with e1 e2
    simp only [List.mem_cons, List.not_mem_nil, or_false] at hy
    rcases hy with rfl | rfl
    · omega
    · exact h5, hk.trans h3⟩
theorem own_set (h : OwnF w0 w F t n L) (key at_ : Int) (hn : n < 900) : Calls Try.prog 22 #[.pointer (some ⟨t, 0, none⟩), .int .i64 key, .int .i64 at_] w fun e w' => e = .returned (.int .i64 (setA L key at_).1) ∧ (∃ F', OwnF w0 w' F' t (n + 1) (setA L key at_).2) ∧ Keeps F w w' :=
  (tmset_any F t n L key at_ hn w h.ti).mono fun _ _ ⟨h1, _, h2, h3, h4⟩ => ⟨h1, h.turn' h2 h3 h4, h4⟩
theorem own_cancel (h : OwnF w0 w F t n L) (key : Int) (r : Bool) (hr : (findL L key).isSome = r) (hw : (Lit.int .i64 key).wf = true) : Calls Try.prog 23 #[.pointer (some ⟨t, 0, none⟩), .int .i64 key] w fun e w' => e = .returned (.bool r) ∧ OwnF w0 w' F t n (cancelL L key) ∧ Keeps F w w' :=
  (tmcancel_any F t n L key r hr hw w h.ti).mono fun _ _ ⟨h1, h2, h3⟩ => ⟨h1, h.turn h2 h3, h3⟩
theorem own_find (h : OwnF w0 w F t n L) (key : Int) (o : Option Int) (ho : findL L key = o) (hw : (Lit.int .i64 key).wf = true) : Calls Try.prog 20 #[.pointer (some ⟨t, 0, none⟩), .int .i64 key] w fun e w' => e = .returned (.tuple #[.int .i64 (o.getD 0), .bool o.isSome]) ∧ w = w' :=
  tmfind_any F t n L key o ho hw w h.ti
theorem own_next (h : OwnF w0 w F t n L) (r : Int × Int × Bool) (hr : nextL L = r) : Calls Try.prog 15 #[.pointer (some ⟨t, 0, none⟩)] w fun e w' => e = .returned (.tuple #[.int .i64 r.1, .int .i64 r.2.1, .bool r.2.2]) ∧ OwnF w0 w' F t n L ∧ Keeps [] w w' :=
  (tmnext_any F t n L r hr w h.ti).mono fun _ _ ⟨h1, h2⟩ => ⟨h1, h.keeps h2, h2⟩
theorem own_due (h : OwnF w0 w F t n L) (now : Int) (ys : List Int) (hys : keysL (dueL L now) = ys) : Calls Try.prog 21 #[.pointer (some ⟨t, 0, none⟩), .int .i64 now] w fun e w' => (∃ v, e = .returned v ∧ NewI w' w.heap.size v ys) ∧ OwnF w0 w' F t n (leftL L now) ∧ Keeps F w w' :=
  (tmDue_any F t n L now ys hys w h.ti).mono fun _ _ ⟨h1, h2, h3⟩ => ⟨h1, h.turn h2 h3, h3⟩
theorem own_keys (h : OwnF w0 w F t n L) (ys : List Int) (hys : keysL L = ys) : Calls Try.prog 18 #[.pointer (some ⟨t, 0, none⟩)] w fun e w' => (∃ v, e = .returned v ∧ NewI w' w.heap.size v ys) ∧ OwnF w0 w' F t n L ∧ Keeps [] w w' :=
  (tmkeys_any F t n L ys hys w h.ti).mono fun _ _ ⟨h1, h2⟩ => ⟨h1, h.keeps h2, h2⟩
theorem own_do (h : OwnF w0 w F t n L) (x : Op1) (hx : x.wf) (hn : n < 900) : Calls Try.prog 13 #[.pointer (some ⟨t, 0, none⟩), x.val] w fun e w' => (∃ v, e = .returned (.tuple #[saidV (doL L x).1, v]) ∧ NewI w' w.heap.size v (doL L x).1.2.2.2) ∧ ∃ F', OwnF w0 w' F' t (n + 1) (doL L x).2 :=
  (do_any F t n L x hx hn w h.ti h.hi).mono fun _ _ ⟨h1, _, h2, _, h4, h5⟩ => ⟨h1, h.turn' h2 h4 h5⟩
end
theorem NewI.val {w : World} {base : Nat} {v : Value} {ys : List Int} (h : NewI w base v ys) : ∃ a c, v = .slice a ys.length c := by
  obtain ⟨a, c, h1, _⟩ := h.ints
  exact ⟨a, c, h1⟩

theorem ints_lit (w : World) (ys : List Int) : IntsAt (w.alloc (.cells (ys.map (Value.int .i64)).toArray 3)) (.slice (some ⟨w.heap.size, 0, none⟩) ys.length ys.length) ys :=
  ⟨_, _, rfl, fun _ => ⟨w.heap.size, 0, rfl, by simp, fun i hi => by
    have h := (Blk.new w 3 (ys.map (Value.int .i64)).toArray).cell i
    rw [Nat.zero_add, h]
    simp [hi]⟩⟩

theorem shl1 : setA [] 5 9 = (0, [⟨5, 9⟩]) := by kernel_rfl
theorem shl2 : setA [⟨5, 9⟩] 3 9 = (0, [⟨3, 9⟩, ⟨5, 9⟩]) := by kernel_rfl
theorem shl3 : setA [⟨3, 9⟩, ⟨5, 9⟩] 7 2 = (0, [⟨7, 2⟩, ⟨3, 9⟩, ⟨5, 9⟩]) := by kernel_rfl
theorem shl4 : setA [⟨7, 2⟩, ⟨3, 9⟩, ⟨5, 9⟩] 5 1 = (0, [⟨5, 1⟩, ⟨7, 2⟩, ⟨3, 9⟩]) := by kernel_rfl
theorem shl5 : keysL (dueL [⟨5, 1⟩, ⟨7, 2⟩, ⟨3, 9⟩] 8) = [5, 7] := by kernel_rfl
theorem shl6 : leftL [⟨5, 1⟩, ⟨7, 2⟩, ⟨3, 9⟩] 8 = [⟨3, 9⟩] := by kernel_rfl
theorem shl7 : setA [⟨3, 9⟩] (-1) 0 = (2, [⟨3, 9⟩]) := by kernel_rfl
theorem shl8 : (findL [⟨3, 9⟩] 3).isSome = true := by kernel_rfl
theorem shl9 : cancelL [⟨3, 9⟩] 3 = [] := by kernel_rfl

set_option maxRecDepth 100000 in
set_option maxHeartbeats 2000000 in
theorem shown_any (w : World) : Calls Try.prog 9 #[] w fun e w' => e = .returned (.bool true) ∧ Keeps [] w w' := by
  have hN := own_new w w (Keeps.refl _ _)
  go_enter Try.func9, Try.ntmps9
  go_wp2_with (go_at_call 11; refine hN.mono ?_; rintro e w1 ⟨rfl, o1⟩; clear hN; have hS := own_set o1 5 9 (by omega); rw [shl1] at hS; clear o1)
  generalize w.heap.size + 1 = t at hS ⊢
  go_wp2_with (go_at_call 22; refine hS.mono ?_; rintro e w2 ⟨rfl, ⟨F2, o2⟩, _⟩; clear hS; have hS := own_set o2 3 9 (by omega); rw [shl2] at hS; clear o2)
  go_wp2_with (go_at_call 22; refine hS.mono ?_; rintro e w3 ⟨rfl, ⟨F3, o3⟩, _⟩; clear hS; have hS := own_set o3 7 2 (by omega); rw [shl3] at hS; clear o3)
  go_wp2_with (go_at_call 22; refine hS.mono ?_; rintro e w4 ⟨rfl, ⟨F4, o4⟩, _⟩; clear hS; have hS := own_set o4 5 1 (by omega); rw [shl4] at hS; clear o4)
  go_wp2_with (go_at_call 22; refine hS.mono ?_; rintro e w5 ⟨rfl, ⟨F5, o5⟩, _⟩; clear hS; have hS := own_due o5 8 [5, 7] shl5; rw [shl6] at hS; have HI5 := Lib.hid o5.hi; clear o5)
  go_wp2_with (go_at_call 21; refine hS.mono ?_; rintro e w6 ⟨⟨v6, rfl, hv6⟩, o6, k6⟩; clear hS; have hS := own_next o6 (3, 9, true) rfl; have HV6 := Lib.hid hv6; have O6 := Lib.hid o6; clear hv6 o6 k6)
  go_wp2_with (go_at_call 15; refine hS.mono ?_; rintro e w7 ⟨rfl, o7, k7⟩; clear hS; have hS := own_set o7 (-1) 0 (by omega); rw [shl7] at hS; have K7 := Lib.hid k7; clear o7 k7)
  go_wp2_with (go_at_call 22; refine hS.mono ?_; rintro e w8 ⟨rfl, ⟨F8, o8⟩, k8⟩; clear hS; have HV8 := Lib.hid (((HV6.out.keeps K7.out (by simp)).keeps k8 HI5.out).ints); have O8 := Lib.hid o8; clear o8 k8 HV6)
  have KA : Keeps [] w8 (w8.alloc (.cells #[.int .i64 5, .int .i64 7] 3)) := (Keeps.refl [] w8).alloc _
  have hS := fun W (hW : Keeps [] w8 W) (h2 : IntsAt W (.slice (some ⟨w8.heap.size, 0, none⟩) 2 2) [5, 7]) => rInts_any v6 (.slice (some ⟨w8.heap.size, 0, none⟩) 2 2) [5, 7] [5, 7] true (by simp) (by simp) W (HV8.out.keeps hW) h2
  have HS := Lib.hid hS
  clear hS KA
  go_wp2_with (fail)
  have hlit : IntsAt (w8.alloc (.cells #[.int .i64 5, .int .i64 7] 3)) (.slice (some ⟨w8.heap.size, 0, none⟩) 2 2) [5, 7] := ints_lit w8 [5, 7]
  refine (HS.out _ ((Keeps.refl [] w8).alloc _) hlit).mono ?_
  rintro e w9 ⟨rfl, k9⟩
  have O9 := Lib.hid (O8.out.keeps (((Keeps.refl [] w8).alloc _).trans k9))
  have hS := own_cancel O9.out 3 true shl8 (by decide)
  rw [shl9] at hS
  clear k9 hlit
  go_wp2_with (first
    | (go_at_call 23; refine hS.mono ?_; rintro e w10 ⟨rfl, o10, _⟩; clear hS; have hS2 := own_cancel o10 3 false (by kernel_rfl) (by decide); clear o10)
    | (go_at_call 23; refine hS2.mono ?_; rintro e w11 ⟨rfl, o11, _⟩; clear hS2; have hS3 := own_keys o11 [] rfl; clear o11))
  refine hS3.mono ?_
  clear hS3
  rintro e w12 ⟨⟨v12, rfl, hv12⟩, o12, _⟩
  obtain ⟨a12, c12, rfl⟩ := hv12.val
  have O12 := Lib.hid o12
  clear hv12 o12
  go_wp2
  go_ret
  exact ⟨rfl, O12.out.k⟩
end Go.Proofs.Ytkkajcakgihckaa
