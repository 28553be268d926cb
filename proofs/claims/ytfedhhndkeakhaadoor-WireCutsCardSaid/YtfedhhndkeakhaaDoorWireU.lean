/- The walks of the taker's data, of try and of take. -/
import Derived.Test.YtfedhhndkeakhaaDoorWireT
namespace Go.Proofs.YtfedhhndkeakhaaDoor
open Go.RowKit
attribute [local go_sem ↓] Go.wp_at_zero Go.wp_at_succ

/-- p, where there is no error. -/
def IfNone (x : Option Nat) (p : Prop) : Prop := x = none → p
theorem IfNone.yes {p : Prop} (h : p) : IfNone none p := fun _ => h
theorem IfNone.no {p : Prop} (g : Nat) : IfNone (some g) p := nofun

theorem long_eq (t : ByteArray) (ht : t.size ≤ maxLen) (h5 : 5 ≤ t.size) (n : Int) (hn : n35 t = n) (w : World) :
    Calls Tryd.prog 39 #[.agg #[.string t]] w fun r w' => r = .returned (.int .i64 n) ∧ ∃ n, (w.alloc (.cells #[.string t] 68)).drewN n = w' := hn ▸ long_any t ht h5 w

set_option maxRecDepth 100000 in
set_option maxHeartbeats 2000000 in
theorem data_any (g : Nat) (t : ByteArray) (ht : t.size ≤ maxLen) (d : ByteArray) (w : World) (hb : Blk w g 70 (tk t (byte0 t) (num2 (t.extract 1 3)) d)) (e : Nat → Addr) (he : Env w e) (hg : ∀ i ∈ [0, 1, 2, 3, 4], i ≠ g ∧ (e i).block ≠ g)
    (h5 : 5 ≤ t.size) (n : Nat) (hn : n35 t = n) (x : Option Nat) (hx : dataE t = x) :
    Calls Tryd.prog 38 #[.pointer (some ⟨g, 0, none⟩)] w fun r w' => r = .returned (errV e x) ∧ IfNone x (Blk w' g 70 (tk t (byte0 t) (num2 (t.extract 1 3)) (frOf t).data)) ∧ Keeps [g] w w' := by
  have HB := Lib.hid hb
  have HE := Lib.hid he
  have HT := Lib.hid ht
  have HG := Lib.hid hg
  have H5 := Lib.hid h5
  have HN := Lib.hid hn
  have hn2 := num2_bd (t.extract 3 5)
  have hn3 : n ≤ 65535 := by unfold n35 at hn; omega
  obtain ⟨c0, c1, c2, c3⟩ := tk_cells hb
  have f3 := hb.frozen 3
  unfold maxLen at ht
  by_cases hlt : (t.size : Int) < 5 + (n : Int)
  · obtain rfl : x = some 2 := by rw [← hx]; unfold dataE; rw [hn, if_pos hlt]
    have hw1 : IntKind.i64.wrap (5 + (n : Int)) = 5 + n := IntWalk.i64_in _ (by omega)
    have hdec : decide ((t.size : Int) < 5 + (n : Int)) = true := decide_eq_true hlt
    clear hb he hx hg h5 hn hn2 c1 c2 c3
    have hk0 := Keeps.refl [] w
    go_enter Tryd.func38, Tryd.ntmps38
    go_wp2
    go_cut [15] (fun b wx => b = .bool true ∧ Keeps [] w wx)
    case first =>
      go_region_held3 (fun w' => w'.cell? ⟨g, 0, none⟩ = some (.string t)) (go_keep) (first | (go_at_call 39; refine (long_eq t HT.out H5.out _ HN.out _).mono ?_; rintro e w' ⟨rfl, n2, rfl⟩))
      all_goals go_wp2_with (fail)
      all_goals go_meet
      exact ⟨rfl, ((hk0.alloc _).drewN _)⟩
    case rest =>
      obtain ⟨rfl, hk⟩ := hcut
      have HK := Lib.hid hk
      have e2 := (HE.out.keep hk).cell 2 (by simp)
      clear hk hk0
      go_wp2
      go_ret
      exact ⟨rfl, IfNone.no _, HK.out.mono (by simp)⟩
  · have hx2 : (if rightF (frOf t) then none else some 0) = x := by rw [← hx]; unfold dataE; rw [hn, if_neg hlt]
    obtain ⟨R, hR⟩ : ∃ R, rightF (frOf t) = R := ⟨_, rfl⟩
    rw [hR] at hx2
    have HR := Lib.hid hR
    have HX := Lib.hid hx2
    have hk0 := Keeps.refl [] w
    have hw1 : IntKind.i64.wrap (5 + (n : Int)) = 5 + n := IntWalk.i64_in _ (by omega)
    have hle : (5 : Int) + (n : Int) ≤ (t.size : Int) := by omega
    have hge : (5 : Int) ≤ 5 + (n : Int) := by omega
    have hdec : decide ((t.size : Int) < 5 + (n : Int)) = false := decide_eq_false hlt
    have hnn : (0 : Int) ≤ 5 + (n : Int) := by omega
    clear hb he hx hx2 hR hg h5 hn hn2 c1 c2 c3
    go_enter Tryd.func38, Tryd.ntmps38
    go_wp2
    go_cut [15] (fun b wx => b = .bool false ∧ Keeps [] w wx)
    case first =>
      go_region_held3 (fun w' => w'.cell? ⟨g, 0, none⟩ = some (.string t)) (go_keep) (first | (go_at_call 39; refine (long_eq t HT.out H5.out _ HN.out _).mono ?_; rintro e w' ⟨rfl, n2, rfl⟩))
      all_goals go_wp2_with (fail)
      all_goals go_meet
      exact ⟨rfl, ((hk0.alloc _).drewN _)⟩
    case rest =>
      obtain ⟨rfl, hk⟩ := hcut
      have hB := HB.out.keeps hk (by simp)
      obtain ⟨c0, c1, c2, c3⟩ := tk_cells hB
      have f3 : ∀ (o : Obj) (m : Nat), ((wc.alloc o).drewN m).frozen? ⟨g, 3, none⟩ = false := fun o m => ((hB.alloc o).drewN m).frozen 3
      have c3' : ∀ (o : Obj) (m : Nat), ((wc.alloc o).drewN m).cell? ⟨g, 3, none⟩ = some (.string d) := fun o m => ((hB.alloc o).drewN m).cell 3
      have HB2 := Lib.hid hB
      have HK := Lib.hid hk
      clear hk hk0 hB
      go_wp2
      go_cut [] (fun wx => Blk wx g 70 (tk t (byte0 t) (num2 (t.extract 1 3)) (frOf t).data) ∧ Keeps [g] w wx)
      case first =>
        go_region_held3 (fun w' => w'.cell? ⟨g, 0, none⟩ = some (.string t)) (first | go_keep | (rw [World.cell?_setCell_other _ _ _ _ (by simp)]; simp [*])) (first | (go_at_call 39; refine (long_eq t HT.out H5.out _ HN.out _).mono ?_; rintro e w' ⟨rfl, n2, rfl⟩))
        all_goals go_wp2_with (fail)
        all_goals go_meet
        have hfd : (frOf t).data = t.extract 5 (5 + (n : Int)).toNat := by show t.extract 5 (5 + n35 t).toNat = _; rw [HN.out]
        rw [hfd]
        exact ⟨((HB2.out.alloc _).drewN _).set_ 3 _, (((HK.out.mono (by simp)).alloc _).drewN _).setCell (.inl (by simp)) _⟩
      case rest =>
        obtain ⟨hB, hK⟩ := hcut
        obtain ⟨c0, c1, c2, c3⟩ := tk_cells hB
        have HB3 := Lib.hid hB
        have HK3 := Lib.hid hK
        have HE3 := Lib.hid (Sents.keeps HE.out hK (fun i hi => ⟨by simpa using (HG.out i hi).1, by simpa using (HG.out i hi).2⟩))
        have hds : (frOf t).data.size ≤ maxLen := by
          show (t.extract 5 (5 + n35 t).toNat).size ≤ maxLen
          have := HT.out
          rw [extract_size]; omega
        have HDS := Lib.hid hds
        clear hB hK hds c0 f3
        go_wp2_with (fail)
        refine (right_any (frOf t) HDS.out R HR.out _).mono ?_
        rintro r w2 ⟨rfl, hk⟩
        have HB4 := Lib.hid (HB3.out.keeps hk (by simp))
        have HK4 := Lib.hid (HK3.out.trans (hk.mono (S' := [g]) (by simp)))
        have hE4 := HE3.out.keep hk
        have e0 := hE4.cell 0 (by simp)
        clear hk hE4
        cases R with
        | true =>
          obtain rfl : x = none := by rw [← HX.out]; rfl
          go_wp2
          go_ret
          exact ⟨rfl, IfNone.yes HB4.out, HK4.out⟩
        | false =>
          obtain rfl : x = some 0 := by rw [← HX.out]; rfl
          go_wp2
          go_ret
          exact ⟨rfl, IfNone.no _, HK4.out⟩
end Go.Proofs.YtfedhhndkeakhaaDoor
