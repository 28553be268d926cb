/- The walk of the law SnapsTwice. -/
import Derived.Test.YtbcppmcjbcnlbaaDoorSnapX
import Derived.Test.YtbcppmcjbcnlbaaDoorSnapWC
import Derived.Deep.DeepCutAuto
namespace Go.Proofs.YtbcppmcjbcnlbaaDoor
open Go.RowKit Go.Shelf
attribute [local go_sem ↓] Go.wp_at_zero Go.wp_at_succ

/-- A number held to 1 .. 5. -/
def few5 (a : Int) : Nat := if a < 1 then 1 else if 5 < a then 5 else a.toNat
theorem few5_in (a : Int) : 1 ≤ few5 a ∧ few5 a ≤ 5 := by unfold few5; constructor <;> (repeat' split) <;> omega
theorem strV_nilrow (W : World) (B : Nat) : W.ownsRow B 9 1 (.slice none 0 0) 0 [] := ⟨rfl, .inl ⟨rfl, rfl⟩⟩
/-- Two appends, one behind the other, of texts. -/
theorem app_two {w : World} {a b : Option Addr} {ca cb : Nat} {xs ys : List ByteArray} (h1 : StrsV w a ca xs) (h2 : StrsV w b cb ys) (hs : (xs ++ ys).length ≤ 1000000) (ty : TypeId) :
    ∃ v1 w1 a2 c2 w2, (Builtin.append_ #[25, 25] ty #[.slice none 0 0, .slice a xs.length ca]).run Tryd.prog w = .ok v1 w1 ∧ (Builtin.append_ #[25, 25] ty #[v1, .slice b ys.length cb]).run Tryd.prog w1 = .ok (.slice a2 (xs ++ ys).length c2) w2 ∧ StrsV w2 a2 c2 (xs ++ ys) ∧ Keeps [] w w2 := by
  rw [List.length_append] at hs
  obtain ⟨v1, w1, hr1, hown1, hg1⟩ := app_strs (ys := []) (strV_nilrow w w.heap.size) (Nat.le_refl _) h1 (by simp) ty
  rw [List.nil_append] at hown1
  have hk1 : Keeps [] w w1 := (Keeps.refl [] w).grown hg1 (fun k hk => by simp [Value.ownBlock] at hk)
  obtain ⟨v2, w2, hr2, hown2, hg2⟩ := app_strs hown1 hk1.size (h2.keeps hk1) (by omega) ty
  obtain ⟨a2, c2, rfl, hs2⟩ := strs_of_row hown2 (by rw [List.length_append]; omega) (fun x hx => by
    rcases List.mem_append.1 hx with hx | hx
    · exact h1.size x hx
    · exact h2.size x hx)
  refine ⟨v1, w1, a2, c2, w2, hr1, hr2, hs2, ?_⟩
  have hge : ∀ k, v1.ownBlock = some k → w.heap.size ≤ k := fun k hk => by
    rcases hown1.2 with ⟨rfl, _⟩ | ⟨g, c, cur, rfl, hb, _⟩
    · simp [Value.ownBlock] at hk
    · simp [Value.ownBlock] at hk; omega
  exact hk1.grown hg2 (fun k hk => .inr (hge k hk))

set_option maxRecDepth 100000 in
set_option maxHeartbeats 8000000 in
theorem twicelaw_any (a : Option Addr) (c : Nat) (V : List SV) (L : List Sn) (n : Nat) (hn : V.length = n) (next cursor from_ now x y : Int) (w : World) (hP : PoolArg w a V L) (e : Nat → Addr) (he : Env w e) :
    Calls Tryd.prog 6 #[.agg #[.slice a n c, .int .i64 next], .int .i64 cursor, .int .i64 from_, .int .i64 now, .int .i64 x, .int .i64 y] w fun r w' => r = .returned (.bool true) ∧ Keeps [] w w' := by
  have HP := Lib.hid hP
  have HN := Lib.hid hn
  have k0 := (Keeps.refl [] w).alloc (.cells #[.slice a n c, .int .i64 next] 24)
  have HK := Lib.hid k0
  have HE0 := Lib.hid he
  have HE := Lib.hid (he.keep k0)
  have HB := Lib.hid (Blk.new w 24 #[.slice a n c, .int .i64 next])
  clear hP hn he k0
  go_enter Tryd.func6, Tryd.ntmps6
  go_wp2_with (fail)
  refine (shown_any _ e HE.out).mono ?_
  rintro r w1 ⟨rfl, k1⟩
  replace HK := Lib.hid (HK.out.trans k1)
  replace HE := Lib.hid (HE.out.keep k1)
  replace HB := Lib.hid (HB.out.keeps k1 (by simp))
  clear k1
  replace q0 := HB.out.cell 0
  replace q1 := HB.out.cell 1
  go_wp2_with (fail)
  refine (cut_any a c V L n HN.out next w1 (HP.out.keeps HK.out)).mono ?_
  rintro r w2 ⟨a2, n2, c2, V2, rfl, hn2, hP2, k2⟩
  have hb2 := HB.out.keeps k2 (by simp)
  replace q0 := hb2.cell 0
  replace q1 := hb2.cell 1
  have f0 := hb2.frozen 0
  have f1 := hb2.frozen 1
  replace HB := Lib.hid ((hb2.set_ 0 (.slice a2 n2 c2)).set_ 1 (.int .i64 next))
  have HP2 := Lib.hid ((hP2.far hb2 0 (.slice a2 n2 c2)).far (hb2.set_ 0 (.slice a2 n2 c2)) 1 (.int .i64 next))
  have k2' := keeps_box (b := w.heap.size) (v0 := .slice a2 n2 c2) (v1 := .int .i64 next) (HK.out.trans k2) (Nat.le_refl _)
  replace HE := Lib.hid (HE0.out.keep k2')
  replace HK := Lib.hid k2'
  have HN2 := Lib.hid hn2
  clear k2 k2' hb2 hP2 hn2
  obtain ⟨W2, hW2⟩ : ∃ W2, (w2.setCell ⟨w.heap.size, 0, none⟩ (.slice a2 n2 c2)).setCell ⟨w.heap.size, 1, none⟩ (.int .i64 next) = W2 := ⟨_, rfl⟩
  rw [hW2] at HB HP2 HE HK
  go_upto_region 3 with (fail)
  clear hW2 q0 q1 f0 f1
  go_cut [4] (fun v wx => v = .int .i64 (few5 x : Nat) ∧ wx = W2)
  case first =>
    go_wp2
    all_goals go_meet
    all_goals exact ⟨congrArg (Value.int .i64) (by unfold few5; (repeat' split) <;> omega), rfl⟩
  case rest =>
    obtain ⟨rfl, rfl⟩ := hcut
    go_upto_region 4 with (fail)
    go_cut [5] (fun v wy => v = .int .i64 (few5 y : Nat) ∧ wy = wc)
    case first =>
      go_wp2
      all_goals go_meet
      all_goals exact ⟨congrArg (Value.int .i64) (by unfold few5; (repeat' split) <;> omega), rfl⟩
    case rest =>
      obtain ⟨rfl, rfl⟩ := hcut
      replace q0 := HB.out.cell 0
      replace q1 := HB.out.cell 1
      obtain ⟨⟨q, l, nx, err⟩, hq⟩ : ∃ r, pageA ⟨cutL L, next⟩ cursor from_ (few5 x : Nat) now = r := ⟨_, rfl⟩
      have HQ := Lib.hid hq
      clear hq
      have HA := Lib.hid (few5_in x)
      have HBB := Lib.hid (few5_in y)
      go_wp2_with (fail)
      refine (page_any a2 c2 V2 ⟨cutL L, next⟩ n2 HN2.out cursor from_ (few5 x : Nat) now _ HP2.out e HE.out q l nx err HQ.out).mono ?_
      rintro r w4 ⟨a4, n4, c4, V4, pa4, m4, pc4, rfl, hn4, hP4, hm4, hs4, k4⟩
      have k4' := k4.alloc (.cells #[.slice a4 n4 c4, .int .i64 q.next] 24)
      replace HK := Lib.hid (HK.out.trans k4')
      replace HE := Lib.hid (HE.out.keep k4')
      replace HB := Lib.hid (HB.out.keeps k4' (by simp))
      replace HP2 := Lib.hid (HP2.out.keeps k4')
      have HP4 := Lib.hid (hP4.keeps ((Keeps.refl [] w4).alloc (.cells #[.slice a4 n4 c4, .int .i64 q.next] 24)))
      have HB4 := Lib.hid (Blk.new w4 24 #[.slice a4 n4 c4, .int .i64 q.next])
      have HN4 := Lib.hid hn4
      have HS4 := Lib.hid (hs4.keeps ((Keeps.refl [] w4).alloc (.cells #[.slice a4 n4 c4, .int .i64 q.next] 24)))
      have HM4 := Lib.hid hm4
      clear k4 k4' hP4 hn4 hs4 hm4
      replace q0 := HB.out.cell 0
      replace q1 := HB.out.cell 1
      dsimp only
      replace q0 := HB4.out.cell 0
      replace q1 := HB4.out.cell 1
      rcases twice_cases HA.out HBB.out HQ.out with ⟨rfl, rfl, rfl, hne⟩ | ⟨rfl, HT0⟩
      · clear HQ
        obtain rfl : m4 = 0 := by rw [← HM4.out]; rfl
        go_wp2
        exact bodyPost_ret (v := .bool true) (by simp [results, Tryd.results6, go_sem]) rfl ⟨rfl, HK.out⟩
      · clear HQ
        have HT := Lib.hid HT0
        have HG := Lib.hid HT0.again
        clear HT0
        have j0 : wrap64 ((few5 x : Int) + (few5 y : Int)) = (few5 x : Int) + (few5 y : Int) := by have h1 := HA.out; have h2 := HBB.out; exact IntWalk.wrap64_in _ ⟨by omega, by omega⟩
        clear q0 q1
        replace r0 := HB4.out.cell 0
        replace r1 := HB4.out.cell 1
        go_wp2_with (fail)
        refine (page_any a4 c4 V4 q n4 HN4.out cursor from_ (few5 x : Nat) now _ HP4.out e HE.out q l nx 0 HG.out).mono ?_
        rintro r w5 ⟨a5, n5, c5, V5, pa5, m5, pc5, rfl, hn5, hP5, hm5, hs5, k5⟩
        have k5' := k5.alloc (.cells #[.slice a5 n5 c5, .int .i64 q.next] 24)
        replace HK := Lib.hid (HK.out.trans k5')
        replace HE := Lib.hid (HE.out.keep k5')
        replace HP4 := Lib.hid (HP4.out.keeps k5')
        replace HS4 := Lib.hid (HS4.out.keeps k5')
        replace HB4 := Lib.hid (HB4.out.keeps k5' (by simp))
        have HP5 := Lib.hid (hP5.keeps ((Keeps.refl [] w5).alloc (.cells #[.slice a5 n5 c5, .int .i64 q.next] 24)))
        have HB5 := Lib.hid (Blk.new w5 24 #[.slice a5 n5 c5, .int .i64 q.next])
        have HN5 := Lib.hid hn5
        have HS5 := Lib.hid (hs5.keeps ((Keeps.refl [] w5).alloc (.cells #[.slice a5 n5 c5, .int .i64 q.next] 24)))
        have HM5 := Lib.hid hm5
        clear k5 k5' hP5 hn5 hs5 hm5
        replace r0 := HB4.out.cell 0
        replace r1 := HB4.out.cell 1
        dsimp only
        clear r0 r1
        replace r0 := HB5.out.cell 0
        replace r1 := HB5.out.cell 1
        rcases HT.out.split with ⟨hlt, rfl, h3⟩ | ⟨hlt, m, k, h3, h4⟩
        · have H3 := Lib.hid h3
          clear h3 hlt
          go_wp2_with (fail)
          refine (page_any a5 c5 V5 q n5 HN5.out cursor from_ ((few5 x : Int) + (few5 y : Int)) now _ HP5.out e HE.out q l (-1) 0 H3.out).mono ?_
          rintro r w6 ⟨a6, n6, c6, V6, pa6, m6, pc6, rfl, hn6, hP6, hm6, hs6, k6⟩
          have k6' := k6.alloc (.cells #[.slice a6 n6 c6, .int .i64 q.next] 24)
          replace HK := Lib.hid (HK.out.trans k6')
          replace HE := Lib.hid (HE.out.keep k6')
          replace HS4 := Lib.hid (HS4.out.keeps k6')
          replace HP5 := Lib.hid (HP5.out.keeps k6')
          replace HS5 := Lib.hid (HS5.out.keeps k6')
          replace HB5 := Lib.hid (HB5.out.keeps k6' (by simp))
          have HP6 := Lib.hid (hP6.keeps ((Keeps.refl [] w6).alloc (.cells #[.slice a6 n6 c6, .int .i64 q.next] 24)))
          have HB6 := Lib.hid (Blk.new w6 24 #[.slice a6 n6 c6, .int .i64 q.next])
          have HN6 := Lib.hid hn6
          have HS6 := Lib.hid (hs6.keeps ((Keeps.refl [] w6).alloc (.cells #[.slice a6 n6 c6, .int .i64 q.next] 24)))
          have HM6 := Lib.hid hm6
          clear k6 k6' hP6 hn6 hs6 hm6
          replace r0 := HB5.out.cell 0
          replace r1 := HB5.out.cell 1
          dsimp only
          go_wp2_with (fail)
          refine (samestr_any pa4 pa5 pc4 pc5 l l m4 m5 HM4.out HM5.out true (by simp) _ HS4.out HS5.out).mono ?_
          rintro r w7 ⟨rfl, k7⟩
          replace HK := Lib.hid (HK.out.trans k7)
          replace HE := Lib.hid (HE.out.keep k7)
          replace HS4 := Lib.hid (HS4.out.keeps k7)
          replace HP5 := Lib.hid (HP5.out.keeps k7)
          replace HS5 := Lib.hid (HS5.out.keeps k7)
          replace HB5 := Lib.hid (HB5.out.keeps k7 (by simp))
          replace HS6 := Lib.hid (HS6.out.keeps k7)
          clear k7
          replace r0 := HB5.out.cell 0
          replace r1 := HB5.out.cell 1
          dsimp only
          go_wp2_with (fail)
          refine (samestr_any pa6 pa4 pc6 pc4 l l m6 m4 HM6.out HM4.out true (by simp) _ HS6.out HS4.out).mono ?_
          rintro r w8 ⟨rfl, k8⟩
          replace HK := Lib.hid (HK.out.trans k8)
          replace HE := Lib.hid (HE.out.keep k8)
          replace HS4 := Lib.hid (HS4.out.keeps k8)
          replace HP5 := Lib.hid (HP5.out.keeps k8)
          replace HS5 := Lib.hid (HS5.out.keeps k8)
          replace HB5 := Lib.hid (HB5.out.keeps k8 (by simp))
          replace HS6 := Lib.hid (HS6.out.keeps k8)
          clear k8
          replace r0 := HB5.out.cell 0
          replace r1 := HB5.out.cell 1
          dsimp only
          go_wp2
          exact bodyPost_ret (v := .bool true) (by simp [results, Tryd.results6, go_sem]) rfl ⟨rfl, HK.out⟩
        · have H3 := Lib.hid h3
          have H4 := Lib.hid h4
          clear h3 h4
          go_wp2_with (fail)
          refine (page_any a5 c5 V5 q n5 HN5.out cursor from_ ((few5 x : Int) + (few5 y : Int)) now _ HP5.out e HE.out q (l ++ m) k 0 H3.out).mono ?_
          rintro r w6 ⟨a6, n6, c6, V6, pa6, m6, pc6, rfl, hn6, hP6, hm6, hs6, k6⟩
          have k6' := k6.alloc (.cells #[.slice a6 n6 c6, .int .i64 q.next] 24)
          replace HK := Lib.hid (HK.out.trans k6')
          replace HE := Lib.hid (HE.out.keep k6')
          replace HS4 := Lib.hid (HS4.out.keeps k6')
          replace HP5 := Lib.hid (HP5.out.keeps k6')
          replace HS5 := Lib.hid (HS5.out.keeps k6')
          replace HB5 := Lib.hid (HB5.out.keeps k6' (by simp))
          have HP6 := Lib.hid (hP6.keeps ((Keeps.refl [] w6).alloc (.cells #[.slice a6 n6 c6, .int .i64 q.next] 24)))
          have HB6 := Lib.hid (Blk.new w6 24 #[.slice a6 n6 c6, .int .i64 q.next])
          have HN6 := Lib.hid hn6
          have HS6 := Lib.hid (hs6.keeps ((Keeps.refl [] w6).alloc (.cells #[.slice a6 n6 c6, .int .i64 q.next] 24)))
          have HM6 := Lib.hid hm6
          clear k6 k6' hP6 hn6 hs6 hm6
          replace r0 := HB5.out.cell 0
          replace r1 := HB5.out.cell 1
          dsimp only
          go_wp2_with (fail)
          refine (page_any a5 c5 V5 q n5 HN5.out cursor nx (few5 y : Nat) now _ HP5.out e HE.out q m k 0 H4.out).mono ?_
          rintro r w7 ⟨a7, n7, c7, V7, pa7, m7, pc7, rfl, hn7, hP7, hm7, hs7, k7⟩
          have k7' := k7.alloc (.cells #[.slice a7 n7 c7, .int .i64 q.next] 24)
          replace HK := Lib.hid (HK.out.trans k7')
          replace HE := Lib.hid (HE.out.keep k7')
          replace HS4 := Lib.hid (HS4.out.keeps k7')
          replace HP5 := Lib.hid (HP5.out.keeps k7')
          replace HS5 := Lib.hid (HS5.out.keeps k7')
          replace HB5 := Lib.hid (HB5.out.keeps k7' (by simp))
          replace HS6 := Lib.hid (HS6.out.keeps k7')
          have HP7 := Lib.hid (hP7.keeps ((Keeps.refl [] w7).alloc (.cells #[.slice a7 n7 c7, .int .i64 q.next] 24)))
          have HB7 := Lib.hid (Blk.new w7 24 #[.slice a7 n7 c7, .int .i64 q.next])
          have HN7 := Lib.hid hn7
          have HS7 := Lib.hid (hs7.keeps ((Keeps.refl [] w7).alloc (.cells #[.slice a7 n7 c7, .int .i64 q.next] 24)))
          have HM7 := Lib.hid hm7
          clear k7 k7' hP7 hn7 hs7 hm7
          replace r0 := HB5.out.cell 0
          replace r1 := HB5.out.cell 1
          dsimp only
          obtain ⟨v1, w8, a9, c9, w9, hr1, hr2, hs9, hk9⟩ := app_two HS4.out HS7.out HS6.out.small 25
          obtain ⟨lm, hlm⟩ : ∃ lm, l ++ m = lm := ⟨_, rfl⟩
          rw [HM4.out] at hr1
          rw [HM7.out, hlm] at hr2
          rw [hlm] at hs9 HS6 HM6
          obtain ⟨k9, hk9l⟩ : ∃ k9, lm.length = k9 := ⟨_, rfl⟩
          rw [hk9l] at hr2
          replace HK := Lib.hid (HK.out.trans hk9)
          replace HE := Lib.hid (HE.out.keep hk9)
          replace HS4 := Lib.hid (HS4.out.keeps hk9)
          replace HP5 := Lib.hid (HP5.out.keeps hk9)
          replace HS5 := Lib.hid (HS5.out.keeps hk9)
          replace HB5 := Lib.hid (HB5.out.keeps hk9 (by simp))
          replace HS6 := Lib.hid (HS6.out.keeps hk9)
          have HS9 := Lib.hid hs9
          have HM9 := Lib.hid hk9l
          clear hs9 hk9 hk9l hlm H3 H4 HT HG HP5 HB5 r0 r1
          go_wp2_with (at_builtin; first | refine wpList_append_run _ rfl _ _ 25 rfl rfl rfl hr1 ?_ | refine wpList_append_run _ rfl _ _ 25 rfl rfl rfl hr2 ?_)
          clear hr1 hr2
          refine (samestr_any pa4 pa5 pc4 pc5 l l m4 m5 HM4.out HM5.out true (by simp) _ HS4.out HS5.out).mono ?_
          rintro r w10 ⟨rfl, k10⟩
          replace HK := Lib.hid (HK.out.trans k10)
          replace HE := Lib.hid (HE.out.keep k10)
          replace HS4 := Lib.hid (HS4.out.keeps k10)
          replace HS5 := Lib.hid (HS5.out.keeps k10)
          replace HS6 := Lib.hid (HS6.out.keeps k10)
          replace HS9 := Lib.hid (HS9.out.keeps k10)
          clear k10
          dsimp only
          go_wp2_with (fail)
          refine (samestr_any pa6 a9 pc6 c9 lm lm m6 k9 HM6.out HM9.out true (by simp) _ HS6.out HS9.out).mono ?_
          rintro r w11 ⟨rfl, k11⟩
          replace HK := Lib.hid (HK.out.trans k11)
          replace HE := Lib.hid (HE.out.keep k11)
          replace HS4 := Lib.hid (HS4.out.keeps k11)
          replace HS5 := Lib.hid (HS5.out.keeps k11)
          replace HS6 := Lib.hid (HS6.out.keeps k11)
          replace HS9 := Lib.hid (HS9.out.keeps k11)
          clear k11
          dsimp only
          go_wp2
          exact bodyPost_ret (v := .bool true) (by simp [results, Tryd.results6, go_sem]) rfl ⟨rfl, HK.out⟩
end Go.Proofs.YtbcppmcjbcnlbaaDoor
