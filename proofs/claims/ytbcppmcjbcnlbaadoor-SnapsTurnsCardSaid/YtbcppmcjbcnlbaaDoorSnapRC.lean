/- The walks of the document's now and Pin. -/
import Derived.Test.YtbcppmcjbcnlbaaDoorSnapRB
import Derived.Test.YtbcppmcjbcnlbaaDoorSnapWB
import Derived.Deep.DeepCutAuto
namespace Go.Proofs.YtbcppmcjbcnlbaaDoor
open Go.RowKit Go.Shelf
attribute [local go_sem ↓] Go.wp_at_zero Go.wp_at_succ

theorem lastU_at {L : List Sn} {k : Nat} (h : L.length = k + 1) {s : Sn} (hs : L[k]? = some s) : lastU L = s.used := by
  unfold lastU
  rw [List.getLast?_eq_getElem?, h, Nat.add_sub_cancel, hs]
  rfl
set_option maxRecDepth 100000 in
theorem now16_any (a : Option Addr) (c : Nat) (V : List SV) (L : List Sn) (next : Int) (n : Nat) (hn : V.length = n) (t : Int) (w : World) (hP : PoolV w a c V ⟨L, next⟩) (b : Bool) (hb : (decide (lastU L ≤ t) && decide (t ≤ 1000000000000)) = b) :
    Calls Tryd.prog 38 #[.agg #[.slice a n c, .int .i64 next], .int .i64 t] w fun r w' => r = .returned (.bool b) ∧ Keeps [] w w' := by
  have hL : L.length = n := by rw [← hn]; exact hP.mt.len.symm
  have hsm : n ≤ 1000000 := by have := hP.small; omega
  have HK0 := Lib.hid ((Keeps.refl [] w).alloc (.cells #[.slice a n c, .int .i64 next] 24))
  have q0 := (Blk.new w 24 #[.slice a n c, .int .i64 next]).cell 0
  obtain ⟨l, hl⟩ : ∃ l, lastU L = l := ⟨_, rfl⟩
  rw [hl] at hb
  cases n with
  | zero =>
    obtain rfl := List.eq_nil_of_length_eq_zero hL
    obtain rfl : 0 = l := hl
    clear hL hP hn
    by_cases h1 : 0 ≤ t
    · by_cases h2 : t ≤ 1000000000000
      · obtain rfl : true = b := by rw [← hb]; simp [h1, h2]
        clear hb
        go_enter Tryd.func38, Tryd.ntmps38
        go_wp2
        go_ret
        exact ⟨rfl, HK0.out⟩
      · obtain rfl : false = b := by rw [← hb]; simp [h2]
        clear hb
        go_enter Tryd.func38, Tryd.ntmps38
        go_wp2
        go_ret
        exact ⟨rfl, HK0.out⟩
    · obtain rfl : false = b := by rw [← hb]; simp [h1]
      clear hb
      go_enter Tryd.func38, Tryd.ntmps38
      go_wp2
      go_ret
      exact ⟨rfl, HK0.out⟩
  | succ k =>
    have hkV : k < V.length := by omega
    have hkL : k < L.length := by omega
    obtain ⟨g, off, cs0, fz0, rfl, hgb, hat⟩ := hP.row (by rintro rfl; simp at hkV)
    have hg := (Array.getElem?_eq_some_iff.1 hgb).1
    have q2 := (hat k hkV).2.2
    have hm := (hP.mt.get k hkV hkL).2.1
    rw [hm] at q2
    have h3 : L[k].used = l := by rw [← hl]; exact (lastU_at hL (List.getElem?_eq_getElem hkL)).symm
    rw [h3, ← HK0.out.cell (by exact hg) (by simp)] at q2
    have j0 : wrap64 (((k + 1 : Nat) : Int) - 1) = (k : Int) := by rw [show (((k + 1 : Nat) : Int) - 1) = (k : Int) by omega]; exact IntWalk.wrap64_in _ ⟨by omega, by omega⟩
    have i0 : (0 : Int) < ((k + 1 : Nat) : Int) := by omega
    have i1 : (0 : Int) ≤ (k : Int) := by omega
    have i2 : (k : Int) < ((k + 1 : Nat) : Int) := by omega
    clear hl hL hP hn hm h3 hat hgb hkV hkL
    by_cases h1 : l ≤ t
    · by_cases h2 : t ≤ 1000000000000
      · obtain rfl : true = b := by rw [← hb]; simp [h1, h2]
        clear hb
        go_enter Tryd.func38, Tryd.ntmps38
        go_wp2
        go_ret
        exact ⟨rfl, HK0.out⟩
      · obtain rfl : false = b := by rw [← hb]; simp [h2]
        clear hb
        go_enter Tryd.func38, Tryd.ntmps38
        go_wp2
        go_ret
        exact ⟨rfl, HK0.out⟩
    · obtain rfl : false = b := by rw [← hb]; simp [h1]
      clear hb
      go_enter Tryd.func38, Tryd.ntmps38
      go_wp2
      go_ret
      exact ⟨rfl, HK0.out⟩

/-- What the last append of Pin leaves. -/
theorem pin_fin16 {w A A9 : World} {B : Nat} {v9 : Value} {F2 : List SV} {L : List Sn} {x now : Int} {a5 : Option Addr} {c5 m : Nat} {xs : List ByteArray} {a : Option Addr} {n c : Nat}
    (hs : SRow A9 B v9 (F2 ++ [⟨x, a5, m, c5, now⟩])) (hk : StrK B A A9) (hM : Mt A F2 L) (hS : StrsV A a5 c5 xs) (hm : xs.length = m) (hl : F2.length ≤ 1000) (hw : Keeps [] w A)
    (h0 : Blk A w.heap.size 24 #[.slice a n c, .int .i64 x]) (h2 : Blk A (w.heap.size + 1) 24 #[.slice none 0 0, .int .i64 0]) (hz : w.heap.size + 1 < B) :
    ∃ a9 k9 c9 V9, v9 = .slice a9 k9 c9 ∧ Hid (V9.length = k9) ∧ Hid (PoolV A9 a9 c9 V9 ⟨L ++ [⟨x, xs, now⟩], x + 1⟩) ∧ Hid (Keeps [] w A9) ∧ Hid (Blk A9 w.heap.size 24 #[.slice a n c, .int .i64 x]) ∧ Hid (Blk A9 (w.heap.size + 1) 24 #[.slice none 0 0, .int .i64 0]) := by
  obtain ⟨a9, c9, rfl, hc9, hr9⟩ := hs.row
  refine ⟨a9, _, c9, _, rfl, Lib.hid rfl, Lib.hid ⟨hc9, by rw [List.length_append, List.length_singleton]; omega, hr9, ?_⟩, Lib.hid (Keeps.of_below ((hw.below (Nat.le_refl _) (by simp)).trans (hk.low.mono (by omega))) []), Lib.hid ((hk.low.block _ (by omega)).trans h0), Lib.hid ((hk.low.block _ hz).trans h2)⟩
  exact (hM.strK hk).app ⟨⟨rfl, rfl, hm.symm, hS.strK hk⟩, trivial⟩

set_option maxRecDepth 100000 in
set_option maxHeartbeats 8000000 in
theorem pin16_any (a : Option Addr) (c : Nat) (V : List SV) (L : List Sn) (x : Int) (n : Nat) (hn : V.length = n) (ia : Option Addr) (ic m : Nat) (xs : List ByteArray) (hm : xs.length = m) (now : Int) (w : World) (hP : PoolV w a c V ⟨L, x⟩) (hI : StrsV w ia ic xs)
    (q : Po) (cur err : Int) (hA : pinA ⟨L, x⟩ xs now = (q, cur, err)) :
    Calls Tryd.prog 16 #[.agg #[.slice a n c, .int .i64 x], .slice ia m ic, .int .i64 now] w (PinR w q cur err) := by
  obtain ⟨R, hR⟩ : ∃ R, rightP ⟨L, x⟩ = R := ⟨_, rfl⟩
  obtain ⟨z, hz⟩ : ∃ z, itemsB xs = z := ⟨_, rfl⟩
  obtain ⟨y, hy⟩ : ∃ y, (decide (lastU L ≤ now) && decide (now ≤ 1000000000000)) = y := ⟨_, rfl⟩
  have hpa : (R && y && z && decide (x < 1000000000000)) = false → q = po0 ∧ cur = 0 ∧ err = 160 := fun h => by
    unfold pinA checkB at hA
    rw [hR, hz, Bool.and_assoc R, hy] at hA
    dsimp only at hA
    rw [h] at hA
    cases hA
    exact ⟨rfl, rfl, rfl⟩
  have HPA := Lib.hid hpa
  have HA := Lib.hid hA
  have hcc := fun W (hk : Keeps [] w W) => right16_any a c V ⟨L, x⟩ n hn W (hP.keeps hk) R hR
  have hci := fun W (hk : Keeps [] w W) => right16_items ia ic xs m hm z hz W (hI.keeps hk)
  have hcn := fun W (hk : Keeps [] w W) => now16_any a c V L x n hn now W (hP.keeps hk) y hy
  dsimp only at hcc
  have HCC := Lib.hid hcc
  have HCI := Lib.hid hci
  have HCN := Lib.hid hcn
  have HP := Lib.hid hP
  have HI := Lib.hid hI
  have HM := Lib.hid hm
  have HR := Lib.hid hR
  have HY := Lib.hid hy
  have HZ := Lib.hid hz
  have HN := Lib.hid hn
  have HLN : Hid (L.length = n) := Lib.hid (by rw [← hn]; exact hP.mt.len.symm)
  have HB0 := Lib.hid ((Blk.new w 24 #[.slice a n c, .int .i64 x]).alloc (.cells #[.slice none 0 0, .int .i64 0] 24))
  have HB2 := Lib.hid (blk_at (w.alloc (.cells #[.slice a n c, .int .i64 x] 24)) 24 #[.slice none 0 0, .int .i64 0] (w.heap.size + 1) (by simp))
  have HK := Lib.hid (((Keeps.refl [] w).alloc (.cells #[.slice a n c, .int .i64 x] 24)).alloc (.cells #[.slice none 0 0, .int .i64 0] 24))
  have p0 : _ = some (Value.slice a n c) := HB0.out.cell 0
  have p1 : _ = some (Value.int .i64 x) := HB0.out.cell 1
  clear hpa hA hcc hci hcn hP hI hm hR hy hz hn
  go_enter Tryd.func16, Tryd.ntmps16
  go_wp2_with (fail)
  refine (HCC.out _ HK.out).mono ?_
  rintro r w1 ⟨rfl, hk⟩
  replace HB0 := Lib.hid (HB0.out.keeps hk (by simp))
  replace HB2 := Lib.hid (HB2.out.keeps hk (by simp))
  replace HK := Lib.hid (HK.out.trans hk)
  clear hk p0 p1
  have p0 : _ = some (Value.slice a n c) := HB0.out.cell 0
  have p1 : _ = some (Value.int .i64 x) := HB0.out.cell 1
  cases R with
  | false =>
    obtain ⟨rfl, rfl, rfl⟩ := HPA.out rfl
    have c0 := HB2.out.cell 0
    have c1 := HB2.out.cell 1
    have f0 := HB2.out.frozen 0
    have f1 := HB2.out.frozen 1
    have HBF := Lib.hid ((HB2.out.set_ 0 (.slice none 0 0)).set_ 1 (.int .i64 0))
    have HKF := Lib.hid ((HK.out.setCell (p := ⟨w.heap.size + 1, 0, none⟩) (.inr (by dsimp only; omega)) (.slice none 0 0)).setCell (p := ⟨w.heap.size + 1, 1, none⟩) (.inr (by dsimp only; omega)) (.int .i64 0))
    go_wp2
    have q0 : _ = some (Value.slice none 0 0) := HBF.out.cell 0
    have q1 : _ = some (Value.int .i64 0) := HBF.out.cell 1
    refine bodyPost_ret (v := .tuple #[.agg #[.slice none 0 0, .int .i64 0], .int .i64 0, .int .i64 160]) (by simp [results, Tryd.results16, go_sem, q0, q1]) rfl ?_
    exact ⟨none, 0, 0, [], rfl, rfl, poolV_nil _, HKF.out⟩
  | true =>
    go_wp2_with (fail)
    refine (HCI.out _ HK.out).mono ?_
    rintro r w2 ⟨rfl, rfl⟩
    cases z with
    | false =>
      obtain ⟨rfl, rfl, rfl⟩ := HPA.out (by cases y <;> rfl)
      have c0 := HB2.out.cell 0
      have c1 := HB2.out.cell 1
      have f0 := HB2.out.frozen 0
      have f1 := HB2.out.frozen 1
      have HBF := Lib.hid ((HB2.out.set_ 0 (.slice none 0 0)).set_ 1 (.int .i64 0))
      have HKF := Lib.hid ((HK.out.setCell (p := ⟨w.heap.size + 1, 0, none⟩) (.inr (by dsimp only; omega)) (.slice none 0 0)).setCell (p := ⟨w.heap.size + 1, 1, none⟩) (.inr (by dsimp only; omega)) (.int .i64 0))
      go_wp2
      have q0 : _ = some (Value.slice none 0 0) := HBF.out.cell 0
      have q1 : _ = some (Value.int .i64 0) := HBF.out.cell 1
      refine bodyPost_ret (v := .tuple #[.agg #[.slice none 0 0, .int .i64 0], .int .i64 0, .int .i64 160]) (by simp [results, Tryd.results16, go_sem, q0, q1]) rfl ?_
      exact ⟨none, 0, 0, [], rfl, rfl, poolV_nil _, HKF.out⟩
    | true =>
      by_cases hx2 : 1000000000000 ≤ x
      · obtain ⟨rfl, rfl, rfl⟩ := HPA.out (by rw [decide_eq_false (by omega)]; cases y <;> rfl)
        have c0 := HB2.out.cell 0
        have c1 := HB2.out.cell 1
        have f0 := HB2.out.frozen 0
        have f1 := HB2.out.frozen 1
        have HBF := Lib.hid ((HB2.out.set_ 0 (.slice none 0 0)).set_ 1 (.int .i64 0))
        have HKF := Lib.hid ((HK.out.setCell (p := ⟨w.heap.size + 1, 0, none⟩) (.inr (by dsimp only; omega)) (.slice none 0 0)).setCell (p := ⟨w.heap.size + 1, 1, none⟩) (.inr (by dsimp only; omega)) (.int .i64 0))
        go_wp2
        have q0 : _ = some (Value.slice none 0 0) := HBF.out.cell 0
        have q1 : _ = some (Value.int .i64 0) := HBF.out.cell 1
        refine bodyPost_ret (v := .tuple #[.agg #[.slice none 0 0, .int .i64 0], .int .i64 0, .int .i64 160]) (by simp [results, Tryd.results16, go_sem, q0, q1]) rfl ?_
        exact ⟨none, 0, 0, [], rfl, rfl, poolV_nil _, HKF.out⟩
      · go_wp2_with (fail)
        refine (HCN.out _ HK.out).mono ?_
        rintro r w3 ⟨rfl, hk⟩
        replace HB0 := Lib.hid (HB0.out.keeps hk (by simp))
        replace HB2 := Lib.hid (HB2.out.keeps hk (by simp))
        replace HK := Lib.hid (HK.out.trans hk)
        clear hk p0 p1
        cases y with
        | false =>
          obtain ⟨rfl, rfl, rfl⟩ := HPA.out rfl
          have c0 := HB2.out.cell 0
          have c1 := HB2.out.cell 1
          have f0 := HB2.out.frozen 0
          have f1 := HB2.out.frozen 1
          have HBF := Lib.hid ((HB2.out.set_ 0 (.slice none 0 0)).set_ 1 (.int .i64 0))
          have HKF := Lib.hid ((HK.out.setCell (p := ⟨w.heap.size + 1, 0, none⟩) (.inr (by dsimp only; omega)) (.slice none 0 0)).setCell (p := ⟨w.heap.size + 1, 1, none⟩) (.inr (by dsimp only; omega)) (.int .i64 0))
          go_wp2
          have q0 : _ = some (Value.slice none 0 0) := HBF.out.cell 0
          have q1 : _ = some (Value.int .i64 0) := HBF.out.cell 1
          refine bodyPost_ret (v := .tuple #[.agg #[.slice none 0 0, .int .i64 0], .int .i64 0, .int .i64 160]) (by simp [results, Tryd.results16, go_sem, q0, q1]) rfl ?_
          exact ⟨none, 0, 0, [], rfl, rfl, poolV_nil _, HKF.out⟩
        | true =>
          have hck : checkB ⟨L, x⟩ now = true := by
            unfold checkB
            rw [HR.out, Bool.and_assoc]
            exact HY.out
          have hmet := (check_iff _ _).1 hck
          obtain ⟨rfl, rfl, rfl⟩ : q = ⟨pinL L now ++ [⟨x, xs, now⟩], x + 1⟩ ∧ x = cur ∧ err = 0 := by
            have h1 := HA.out
            rw [pinA_met hmet HZ.out (by dsimp only; omega)] at h1
            cases h1
            exact ⟨rfl, rfl, rfl⟩
          have hn3 : n ≤ 3 := by rw [← HLN.out]; exact hmet.ok.len
          have hx1 : 1 ≤ x := hmet.ok.n1
          have HU : Hid (∀ s ∈ L, 0 ≤ s.used ∧ s.used ≤ 1000000000000) := Lib.hid hmet.ok.us
          have ht0 := hmet.t0
          have ht1 := hmet.t1
          have HSZ : Hid (w.heap.size + 1 < w3.heap.size) := Lib.hid HB2.out.lt
          clear hck hmet HPA HA HCC HCI HCN HR HY HZ
          go_wp2
          go_loopw [9, 10] (fun u i wr => ∃ (k : Nat) (V' : List SV), k ≤ n ∧ i = .int .i64 k ∧ Hid ((V.take k).filter (freshV now) = V') ∧ Hid (SRow wr w3.heap.size u V') ∧ Hid (Below w3.heap.size w3 wr)) (fun _ i _ => n - (intOf i).toNat)
          case atStart => exact ⟨0, [], Nat.zero_le _, rfl, Lib.hid (by simp), Lib.hid (.inl ⟨rfl, rfl⟩), Lib.hid (Below.refl _ _)⟩
          case round =>
            obtain ⟨k, V', hk, rfl, HF, HS, HBW⟩ := hrel
            have hkw := Keeps.of_below HBW.out []
            have z0 : wr.cell? ⟨w.heap.size, 0, none⟩ = some (.slice a n c) := (HB0.out.keeps hkw (by simp)).cell 0
            by_cases hlt : k < n
            · have hk1 : k < V.length := by rw [HN.out]; exact hlt
              have hkL : k < L.length := by rw [HLN.out]; exact hlt
              have hm := HP.out.mt.get k hk1 hkL
              obtain ⟨g, off, cs0, fz0, rfl, hgb, hat⟩ := HP.out.row (by rintro rfl; simp at hk1)
              have hg := (Array.getElem?_eq_some_iff.1 hgb).1
              obtain ⟨y, hy⟩ : ∃ y, V[k] = y := ⟨_, rfl⟩
              have q1 := hat k hk1
              rw [hy] at q1 hm
              obtain ⟨p0, p1, p2⟩ := q1
              rw [← (HK.out.trans hkw).cell (by exact hg) (by simp)] at p0 p1 p2
              have hu := HU.out L[k] (List.getElem_mem _)
              rw [← hm.2.1] at hu
              have i1 : (0 : Int) ≤ (k : Int) := by omega
              have i2 : (k : Int) < (n : Int) := by omega
              have j1 : wrap64 (now - y.used) = now - y.used := IntWalk.wrap64_in _ ⟨by omega, by omega⟩
              have HVS : Hid (V[k]? = some y) := Lib.hid (by rw [List.getElem?_eq_getElem hk1, hy])
              have HKW := Lib.hid hkw
              clear hy hm hkw hk1 hkL hgb hat hg hu
              have HTS : Hid ((V.take (k + 1)).filter (freshV now) = V' ++ if freshV now y then [y] else []) := Lib.hid (by rw [take_snoc HVS.out, List.filter_append, HF.out, List.filter_cons, List.filter_nil])
              by_cases hfr : now - y.used < 1000
              · have HTS2 : Hid ((V.take (k + 1)).filter (freshV now) = V' ++ [y]) := Lib.hid (by rw [HTS.out, if_pos (by unfold freshV; exact decide_eq_true hfr)])
                have hk4 := (Keeps.refl [] wr).alloc (.cells y.arr 39)
                have hvl : V'.length ≤ 1000 := by rw [← HF.out]; have h1 := List.length_filter_le (freshV now) (V.take k); rw [List.length_take] at h1; omega
                have hsz : w3.heap.size ≤ wr.heap.size := HBW.out.size
                obtain ⟨v9, w9, hrun, hs9, hk9⟩ := (HS.out.keeps hk4).push hvl (by simp; omega) _ y (Blk.new wr 39 y.arr) 22
                have hb9 : Below w3.heap.size w3 w9 := (HBW.out.trans (hk4.below hsz (by simp))).trans hk9.low
                simp only [SV.arr] at hrun
                have HS9 := Lib.hid hs9
                have HB9 := Lib.hid hb9
                clear hk4 hvl hsz hs9 hk9 hb9
                go_wp2_with (at_builtin; refine wpList_append_run _ rfl _ _ 22 rfl rfl rfl hrun ?_)
                go_roundw
                case rel => exact ⟨k + 1, V' ++ [y], by omega, by go_num, HTS2, HS9, HB9⟩
                case measure => simp [intOf]; omega
              · have HTS2 : Hid ((V.take (k + 1)).filter (freshV now) = V') := Lib.hid (by rw [HTS.out, if_neg (by unfold freshV; simp; omega), List.append_nil])
                go_wp2
                go_roundw
                case rel => exact ⟨k + 1, V', by omega, by go_num, HTS2, HS, HBW⟩
                case measure => simp [intOf]; omega
            · obtain rfl : k = n := by omega
              have hF2 : V.filter (freshV now) = V' := by rw [← HF.out, List.take_of_length_le (by rw [HN.out]; exact Nat.le_refl _)]
              have hMf : Mt wr V' (L.filter (freshB now)) := by rw [← hF2]; exact (HP.out.mt.keeps (HK.out.trans hkw)).filter now
              have hFl : V'.length ≤ 3 := by rw [hMf.len]; exact Nat.le_trans (List.length_filter_le _ _) (by rw [HLN.out]; exact hn3)
              have HIS4 := Lib.hid (HI.out.keeps (HK.out.trans hkw))
              have HK4 := Lib.hid (HK.out.trans hkw)
              replace HB0 := Lib.hid (HB0.out.keeps hkw (by simp))
              replace HB2 := Lib.hid (HB2.out.keeps hkw (by simp))
              have HSB : Hid (w3.heap.size ≤ wr.heap.size) := Lib.hid HBW.out.size
              have pn : wr.cell? ⟨w.heap.size, 1, none⟩ = some (.int .i64 x) := HB0.out.cell 1
              obtain ⟨a1, c1, rfl, hc1, -⟩ := HS.out.row
              obtain ⟨kf, hkf⟩ : ∃ kf, V'.length = kf := ⟨_, rfl⟩
              rw [hkf] at hc1 hFl
              have HKF0 := Lib.hid hkf
              have HMF := Lib.hid hMf
              have hs1 := HS.out
              rw [hkf] at hs1 ⊢
              clear hF2 hMf hkw HF HBW HS hkf
              by_cases hk3 : kf = 3
              · subst hk3
                obtain ⟨g, off, cap, hv, h1c, hs2⟩ := hs1.tail (by rw [HKF0.out]; omega)
                injection hv with e1 e2 e3
                subst e1
                subst e3
                clear e2
                have hsl : (Instr.slice 22 (.slice (some ⟨g, off, none⟩) 3 c1) (some (.int .i64 1)) none none).run Tryd.prog wr = .ok (.slice (some ⟨g, off + 3, none⟩) 2 (c1 - 1)) wr := by
                  have := snap_slice_l wr g off 3 c1 1 (by omega) h1c
                  simpa using this
                have HS4 : Hid (SRow wr w3.heap.size (.slice (some ⟨g, off + 3, none⟩) 2 (c1 - 1)) (V'.drop 1)) := Lib.hid (by rw [HKF0.out] at hs2; simpa using hs2)
                have HM4 : Hid (Mt wr (V'.drop 1) (pinL L now)) := Lib.hid (by unfold pinL; rw [← HMF.out.len, HKF0.out, if_pos rfl]; exact HMF.out.drop 1)
                have HL4 : Hid ((V'.drop 1).length ≤ 1000) := Lib.hid (by rw [List.length_drop, HKF0.out]; omega)
                obtain ⟨F2, hF2⟩ : ∃ F2, V'.drop 1 = F2 := ⟨_, rfl⟩
                rw [hF2] at HS4 HM4 HL4
                clear hs1 hs2 hc1 hF2
                go_upto_region 11 with (fail)
                have HB04 := HB0
                have hrow0 : ((wr.drew).alloc (.cells #[] 9)).ownsRow (wr.drew).heap.size 9 1 (.slice (some ⟨(wr.drew).heap.size, 0, none⟩) 0 0) 0 [] := by
                  have := World.ownsRow_lit (base := (wr.drew).heap.size) (e := 9) (size := 1) (wr.drew) #[] 0 (Nat.le_refl _) (by unfold maxLen; omega) rfl
                  simpa using this
                have hka := ((Keeps.refl [] wr).drew).alloc (.cells #[] 9)
                obtain ⟨v5, w5, hr5, hown5, hg5⟩ := app_strs (ys := []) hrow0 (by simp) (HIS4.out.keeps hka) (by simp) 25
                rw [List.nil_append] at hown5
                obtain ⟨a5, c5, rfl, hst5⟩ := strs_of_row hown5 HIS4.out.small HIS4.out.size
                have hk5 : Keeps [] wr w5 := hka.grown hg5 (fun k hk => by
                  simp [Value.ownBlock] at hk
                  exact .inr (by omega))
                rw [HM.out] at hr5
                have HK5 := Lib.hid hk5
                have HST5 := Lib.hid hst5
                have hz4 : (wr.drew).heap.size = wr.heap.size := rfl
                rw [hz4] at hr5
                have HR5 := Lib.hid hr5
                clear hrow0 hka hr5 hown5 hg5 hst5 hk5 hz4
                obtain ⟨v9, w9, hrun, hs9, hk9⟩ := SRow.push ((HS4.out.keeps HK5.out).keeps ((Keeps.refl [] w5).alloc (.cells (SV.arr (⟨x, a5, m, c5, now⟩ : SV)) 39))) HL4.out (by have := HK5.out.size; have := HSB.out; simp; omega) w5.heap.size (⟨x, a5, m, c5, now⟩ : SV) (Blk.new w5 39 (SV.arr (⟨x, a5, m, c5, now⟩ : SV))) 22
                simp only [SV.arr] at hrun
                have HR9 := Lib.hid hrun
                have HS9 := Lib.hid hs9
                have HK9 := Lib.hid hk9
                clear hrun hs9 hk9
                have hss : ∀ w' : World, w'.heap[w.heap.size]? = wr.heap[w.heap.size]? → (w'.cell? ⟨w.heap.size, 1, none⟩ = some (.int .i64 x)) := fun w' h0 => (World.cell?_of_block (a := ⟨w.heap.size, 1, none⟩) h0).trans pn
                have hA := hss ((wr.drew).alloc (.cells #[] 9)) ((((Keeps.refl [] wr).drew).alloc (.cells #[] 9)).block _ HB0.out.lt (by simp))
                have hB := hss w5 (HK5.out.block _ HB0.out.lt (by simp))
                have hC := fun o => hss (w5.alloc o) ((HK5.out.alloc o).block _ HB0.out.lt (by simp))
                have hD := hss w9 ((HK9.out.low.block _ (by have := HSZ.out; omega)).trans ((HK5.out.alloc _).block _ HB0.out.lt (by simp)))
                have HSA := Lib.hid hA
                have HSB5 := Lib.hid hB
                have HSC := Lib.hid hC
                have HSD := Lib.hid hD
                have HPN := Lib.hid (hss wr.drew rfl)
                clear hss hA hB hC hD pn z0
                go_cut [9] (fun v wx => ∃ a9 k9 c9 V9, v = .slice a9 k9 c9 ∧ Hid (V9.length = k9) ∧ Hid (PoolV wx a9 c9 V9 ⟨pinL L now ++ [⟨x, xs, now⟩], x + 1⟩) ∧ Hid (Keeps [] w wx) ∧ Hid (Blk wx w.heap.size 24 #[.slice a k c, .int .i64 x]) ∧ Hid (Blk wx (w.heap.size + 1) 24 #[.slice none 0 0, .int .i64 0]))
                case first =>
                  refine wp_region_held_drew (S := (fun w' : World => w'.cell? ⟨w.heap.size, 1, none⟩ = some (.int .i64 x))) (by kernel_rfl) ?_ (fun hHeld => ?_)
                  · (try dsimp only); (first | exact HSD.out | exact HSC.out _ | exact HSB5.out | exact HSA.out | exact HPN.out)
                  refine wpAnyH_take (i := 0) (oi := { dst := some 60, op := Op.move (Operand.tmp 9), type := 22, pos := "ref.go:63", after := #[], guard := none }) (v := ?_) rfl (by kernel_rfl) (by kernel_rfl) (by kernel_rfl) (fun _ _ _ h => h) (Or.inl ⟨by rfl, ?_⟩) (by assumption) ?_
                  rotate_left; · ((intro w hSw; (try dsimp only at hSw); go_simp); try with_reducible rfl)
                  try simp only [Act.put, List.setIfInBounds_toArray, List.set_cons_zero, List.set_cons_succ]
                  refine wpAnyH_take (i := 1) (oi := { dst := some 61, op := Op.fieldAddr 24 (Operand.tmp 3) 1, type := 0, pos := "ref.go:63", after := #[], guard := none }) (v := ?_) rfl (by kernel_rfl) (by kernel_rfl) (by kernel_rfl) (fun _ _ _ h => h) (Or.inl ⟨by rfl, ?_⟩) (by assumption) ?_
                  rotate_left; · ((intro w hSw; (try dsimp only at hSw); go_simp); try with_reducible rfl)
                  try simp only [Act.put, List.setIfInBounds_toArray, List.set_cons_zero, List.set_cons_succ]
                  refine wpAnyH_take (i := 2) (oi := { dst := some 62, op := Op.load 3 (Operand.tmp 61), type := 3, pos := "ref.go:63", after := #[{ on := 1, ground := Ground.data }], guard := none }) (v := ?_) rfl (by kernel_rfl) (by kernel_rfl) (by kernel_rfl) (fun _ _ _ h => h) (Or.inl ⟨by rfl, ?_⟩) (by assumption) ?_
                  rotate_left; · ((intro w hSw; (try dsimp only at hSw); go_simp); try with_reducible rfl)
                  try simp only [Act.put, List.setIfInBounds_toArray, List.set_cons_zero, List.set_cons_succ]
                  refine wpAnyH_take (i := 4) (oi := { dst := some 64, op := Op.move (Operand.tmp 1), type := 25, pos := "ref.go:63", after := #[], guard := none }) (v := ?_) rfl (by kernel_rfl) (by kernel_rfl) (by kernel_rfl) (fun _ _ _ h => h) (Or.inl ⟨by rfl, ?_⟩) (by assumption) ?_
                  rotate_left; · ((intro w hSw; (try dsimp only at hSw); go_simp); try with_reducible rfl)
                  try simp only [Act.put, List.setIfInBounds_toArray, List.set_cons_zero, List.set_cons_succ]
                  refine wpAnyH_take (i := 6) (oi := { dst := some 66, op := Op.move (Operand.tmp 2), type := 3, pos := "ref.go:63", after := #[], guard := none }) (v := ?_) rfl (by kernel_rfl) (by kernel_rfl) (by kernel_rfl) (fun _ _ _ h => h) (Or.inl ⟨by rfl, ?_⟩) (by assumption) ?_
                  rotate_left; · ((intro w hSw; (try dsimp only at hSw); go_simp); try with_reducible rfl)
                  try simp only [Act.put, List.setIfInBounds_toArray, List.set_cons_zero, List.set_cons_succ]
                  refine wpAnyH_ready (rs := [3]) (by kernel_rfl) (by simp) ?_
                  refine AllReadyH.cons rfl (fun K hK => ?_) ?_
                  · go_simp
                    refine hK.out _ _ ?_ (fun hHeld => ?_)
                    · (try dsimp only); (first | exact HSD.out | exact HSC.out _ | exact HSB5.out | exact HSA.out | exact HPN.out)
                    clear hK K
                    try simp only [Act.put, List.setIfInBounds_toArray, List.set_cons_zero, List.set_cons_succ]
                    refine wpAnyH_ready (rs := [5]) (by kernel_rfl) (by simp) ?_
                    refine AllReadyH.cons rfl (fun K hK => ?_) ?_
                    · skip
                      (first | (refine wp_append_run _ _ 25 (by rfl) (by rfl) (by rfl) (by rfl) HR5.out ?_) | (refine wp_append_run _ _ 22 (by rfl) (by rfl) (by rfl) (by rfl) HR9.out ?_))
                      refine hK.out _ _ ?_ (fun hHeld => ?_)
                      · (try dsimp only); (first | exact HSD.out | exact HSC.out _ | exact HSB5.out | exact HSA.out | exact HPN.out)
                      clear hK K
                      try simp only [Act.put, List.setIfInBounds_toArray, List.set_cons_zero, List.set_cons_succ]
                      refine wpAnyH_take (i := 7) (oi := { dst := some 67, op := Op.build 39 #[(0, Operand.tmp 62), (1, Operand.tmp 65), (2, Operand.tmp 66)], type := 39, pos := "ref.go:63", after := #[{ on := 2, ground := Ground.data }, { on := 5, ground := Ground.data }, { on := 6, ground := Ground.data }], guard := none }) (v := ?_) rfl (by kernel_rfl) (by kernel_rfl) (by kernel_rfl) (fun _ _ _ h => h) (Or.inl ⟨by rfl, ?_⟩) (by assumption) ?_
                      rotate_left; · ((intro w hSw; (try dsimp only at hSw); go_simp); try with_reducible rfl)
                      try simp only [Act.put, List.setIfInBounds_toArray, List.set_cons_zero, List.set_cons_succ]
                      refine wpAnyH_ready (rs := [8]) (by kernel_rfl) (by simp) ?_
                      refine AllReadyH.cons rfl (fun K hK => ?_) ?_
                      · go_simp
                        refine hK.out _ _ ?_ (fun hHeld => ?_)
                        · (try dsimp only); (first | exact HSD.out | exact HSC.out _ | exact HSB5.out | exact HSA.out | exact HPN.out)
                        clear hK K
                        try simp only [Act.put, List.setIfInBounds_toArray, List.set_cons_zero, List.set_cons_succ]
                        refine wpAnyH_ready (rs := [9]) (by kernel_rfl) (by simp) ?_
                        refine AllReadyH.cons rfl (fun K hK => ?_) ?_
                        · skip
                          (first | (refine wp_append_run _ _ 25 (by rfl) (by rfl) (by rfl) (by rfl) HR5.out ?_) | (refine wp_append_run _ _ 22 (by rfl) (by rfl) (by rfl) (by rfl) HR9.out ?_))
                          refine hK.out _ _ ?_ (fun hHeld => ?_)
                          · (try dsimp only); (first | exact HSD.out | exact HSC.out _ | exact HSB5.out | exact HSA.out | exact HPN.out)
                          clear hK K
                          try simp only [Act.put, List.setIfInBounds_toArray, List.set_cons_zero, List.set_cons_succ]
                          refine wpAnyH_take (i := 10) (oi := { dst := some 9, op := Op.assign (Operand.tmp 69), type := 22, pos := "ref.go:63", after := #[{ on := 9, ground := Ground.data }, { on := 9, ground := Ground.chain }, { on := 0, ground := Ground.phase }, { on := 1, ground := Ground.phase }, { on := 2, ground := Ground.phase }, { on := 3, ground := Ground.phase }, { on := 4, ground := Ground.phase }, { on := 5, ground := Ground.phase }, { on := 6, ground := Ground.phase }, { on := 7, ground := Ground.phase }, { on := 8, ground := Ground.phase }, { on := 9, ground := Ground.phase }], guard := none }) (v := ?_) rfl (by kernel_rfl) (by kernel_rfl) (by kernel_rfl) (fun _ _ _ h => h) (Or.inl ⟨by rfl, ?_⟩) (by assumption) ?_
                          rotate_left; · ((intro w hSw; (try dsimp only at hSw); go_simp); try with_reducible rfl)
                          try simp only [Act.put, List.setIfInBounds_toArray, List.set_cons_zero, List.set_cons_succ]
                          refine wpAnyH_done (by kernel_rfl) ?_ _
                          (go_wp2_with (fail); go_meet; exact pin_fin16 HS9.out HK9.out (HM4.out.keeps (HK5.out.alloc _)) (HST5.out.keeps ((Keeps.refl [] w5).alloc _)) HM.out HL4.out ((HK4.out.trans HK5.out).alloc _) ((HB0.out.keeps HK5.out (by simp)).alloc _) ((HB2.out.keeps HK5.out (by simp)).alloc _) HSZ.out)
                        exact AllReadyH.nil
                      exact AllReadyH.nil
                    exact AllReadyH.nil
                  exact AllReadyH.nil
                case rest =>
                  obtain ⟨a9, k9, c9, V9, rfl, HV9, HP9, HK9, HB09, HB29⟩ := hcut
                  have pn : wc.cell? ⟨w.heap.size, 1, none⟩ = some (.int .i64 x) := HB09.out.cell 1
                  have q0 : wc.cell? ⟨w.heap.size + 1, 0, none⟩ = some (.slice none 0 0) := HB29.out.cell 0
                  have q1 : wc.cell? ⟨w.heap.size + 1, 1, none⟩ = some (.int .i64 0) := HB29.out.cell 1
                  have f0 := HB29.out.frozen 0
                  have f1 := HB29.out.frozen 1
                  have hwx : IntKind.i64.wrap (x + 1) = x + 1 := IntWalk.i64_in _ (by omega)
                  have hw1 : ∀ u v, ((wc.drew.setCell ⟨w.heap.size + 1, 0, none⟩ u).setCell ⟨w.heap.size + 1, 1, none⟩ v).cell? ⟨w.heap.size, 1, none⟩ = some (.int .i64 x) := fun u v => (((HB09.out.drew).far (p := ⟨w.heap.size + 1, 0, none⟩) (by dsimp only; omega) u).far (p := ⟨w.heap.size + 1, 1, none⟩) (by dsimp only; omega) v).cell 1
                  have HW1 := Lib.hid hw1
                  have HBF := Lib.hid (And.intro (HB29.out.set_ 0 (.slice a9 k9 c9)) ((HB29.out.set_ 0 (.slice a9 k9 c9)).set_ 1 (.int .i64 (x + 1))))
                  have HKF := Lib.hid ((HK9.out.drew.setCell (p := ⟨w.heap.size + 1, 0, none⟩) (.inr (by dsimp only; omega)) (.slice a9 k9 c9)).setCell (p := ⟨w.heap.size + 1, 1, none⟩) (.inr (by dsimp only; omega)) (.int .i64 (x + 1)))
                  have HPF := Lib.hid ((HP9.out.keepsS (Keeps.drew (Keeps.refl [w.heap.size + 1] wc) |>.setCell (p := ⟨w.heap.size + 1, 0, none⟩) (.inl (by simp)) (.slice a9 k9 c9) |>.setCell (p := ⟨w.heap.size + 1, 1, none⟩) (.inl (by simp)) (.int .i64 (x + 1))) (fun k hk => by simp at hk; subst hk; exact ⟨_, HB29.out, by decide, by decide⟩)))
                  clear hw1
                  go_wp2_with (fail)
                  refine wp_region_held_drew (S := (fun w' : World => w'.cell? ⟨w.heap.size, 1, none⟩ = some (.int .i64 x))) (by kernel_rfl) ?_ (fun hHeld => ?_)
                  · (try dsimp only); (first | exact HW1.out _ _ | exact pn)
                  refine wpAnyH_take (i := 0) (oi := { dst := some 70, op := Op.move (Operand.tmp 9), type := 22, pos := "ref.go:64", after := #[], guard := none }) (v := ?_) rfl (by kernel_rfl) (by kernel_rfl) (by kernel_rfl) (fun _ _ _ h => h) (Or.inl ⟨by rfl, ?_⟩) (by assumption) ?_
                  rotate_left; · ((intro w hSw; (try dsimp only at hSw); go_simp); try with_reducible rfl)
                  try simp only [Act.put, List.setIfInBounds_toArray, List.set_cons_zero, List.set_cons_succ]
                  refine wpAnyH_take (i := 1) (oi := { dst := some 71, op := Op.fieldAddr 24 (Operand.tmp 3) 1, type := 0, pos := "ref.go:64", after := #[], guard := none }) (v := ?_) rfl (by kernel_rfl) (by kernel_rfl) (by kernel_rfl) (fun _ _ _ h => h) (Or.inl ⟨by rfl, ?_⟩) (by assumption) ?_
                  rotate_left; · ((intro w hSw; (try dsimp only at hSw); go_simp); try with_reducible rfl)
                  try simp only [Act.put, List.setIfInBounds_toArray, List.set_cons_zero, List.set_cons_succ]
                  refine wpAnyH_take (i := 2) (oi := { dst := some 72, op := Op.load 3 (Operand.tmp 71), type := 3, pos := "ref.go:64", after := #[{ on := 1, ground := Ground.data }], guard := none }) (v := ?_) rfl (by kernel_rfl) (by kernel_rfl) (by kernel_rfl) (fun _ _ _ h => h) (Or.inl ⟨by rfl, ?_⟩) (by assumption) ?_
                  rotate_left; · ((intro w hSw; (try dsimp only at hSw); go_simp); try with_reducible rfl)
                  try simp only [Act.put, List.setIfInBounds_toArray, List.set_cons_zero, List.set_cons_succ]
                  refine wpAnyH_take (i := 3) (oi := { dst := some 73, op := Op.binOp BinOp.add 3 (Operand.tmp 72) (Operand.const (Value.int IntKind.i64 1)) 3, type := 3, pos := "ref.go:64", after := #[{ on := 2, ground := Ground.data }], guard := none }) (v := ?_) rfl (by kernel_rfl) (by kernel_rfl) (by kernel_rfl) (fun _ _ _ h => h) (Or.inl ⟨by rfl, ?_⟩) (by assumption) ?_
                  rotate_left; · ((intro w hSw; (try dsimp only at hSw); go_simp); try with_reducible rfl)
                  try simp only [Act.put, List.setIfInBounds_toArray, List.set_cons_zero, List.set_cons_succ]
                  refine wpAnyH_take (i := 4) (oi := { dst := some 74, op := Op.build 24 #[(0, Operand.tmp 70), (1, Operand.tmp 73)], type := 24, pos := "ref.go:64", after := #[{ on := 0, ground := Ground.data }, { on := 3, ground := Ground.data }], guard := none }) (v := ?_) rfl (by kernel_rfl) (by kernel_rfl) (by kernel_rfl) (fun _ _ _ h => h) (Or.inl ⟨by rfl, ?_⟩) (by assumption) ?_
                  rotate_left; · ((intro w hSw; (try dsimp only at hSw); go_simp); try with_reducible rfl)
                  try simp only [Act.put, List.setIfInBounds_toArray, List.set_cons_zero, List.set_cons_succ]
                  refine wpAnyH_take (i := 5) (oi := { dst := some 75, op := Op.fieldAddr 24 (Operand.tmp 3) 1, type := 0, pos := "ref.go:64", after := #[{ on := 7, ground := Ground.gcOnly Departure.lateStores }], guard := none }) (v := ?_) rfl (by kernel_rfl) (by kernel_rfl) (by kernel_rfl) (fun _ _ _ h => h) (Or.inl ⟨by rfl, ?_⟩) (by assumption) ?_
                  rotate_left; · ((intro w hSw; (try dsimp only at hSw); go_simp); try with_reducible rfl)
                  try simp only [Act.put, List.setIfInBounds_toArray, List.set_cons_zero, List.set_cons_succ]
                  refine wpAnyH_take (i := 6) (oi := { dst := some 76, op := Op.load 3 (Operand.tmp 75), type := 3, pos := "ref.go:64", after := #[{ on := 5, ground := Ground.data }, { on := 7, ground := Ground.gcOnly Departure.lateStores }], guard := none }) (v := ?_) rfl (by kernel_rfl) (by kernel_rfl) (by kernel_rfl) (fun _ _ _ h => h) (Or.inl ⟨by rfl, ?_⟩) (by assumption) ?_
                  rotate_left; · ((intro w hSw; (try dsimp only at hSw); go_simp); try with_reducible rfl)
                  try simp only [Act.put, List.setIfInBounds_toArray, List.set_cons_zero, List.set_cons_succ]
                  refine wpAnyH_ready (rs := [7]) (by kernel_rfl) (by simp) ?_
                  refine AllReadyH.cons rfl (fun K hK => ?_) ?_
                  · go_simp
                    refine hK.out _ _ ?_ (fun hHeld => ?_)
                    · (try dsimp only); (first | exact HW1.out _ _ | exact pn)
                    clear hK K
                    try simp only [Act.put, List.setIfInBounds_toArray, List.set_cons_zero, List.set_cons_succ]
                    refine wpAnyH_take (i := 8) (oi := { dst := some 7, op := Op.assign (Operand.tmp 76), type := 3, pos := "ref.go:64", after := #[{ on := 6, ground := Ground.data }, { on := 7, ground := Ground.chain }, { on := 0, ground := Ground.phase }, { on := 1, ground := Ground.phase }, { on := 2, ground := Ground.phase }, { on := 3, ground := Ground.phase }, { on := 4, ground := Ground.phase }, { on := 5, ground := Ground.phase }, { on := 6, ground := Ground.phase }, { on := 7, ground := Ground.phase }], guard := none }) (v := ?_) rfl (by kernel_rfl) (by kernel_rfl) (by kernel_rfl) (fun _ _ _ h => h) (Or.inl ⟨by rfl, ?_⟩) (by assumption) ?_
                    rotate_left; · ((intro w hSw; (try dsimp only at hSw); go_simp); try with_reducible rfl)
                    try simp only [Act.put, List.setIfInBounds_toArray, List.set_cons_zero, List.set_cons_succ]
                    refine wpAnyH_take (i := 9) (oi := { dst := some 8, op := Op.assign (Operand.const (Value.int IntKind.i64 0)), type := 30, pos := "ref.go:64", after := #[{ on := 8, ground := Ground.chain }, { on := 0, ground := Ground.phase }, { on := 1, ground := Ground.phase }, { on := 2, ground := Ground.phase }, { on := 3, ground := Ground.phase }, { on := 4, ground := Ground.phase }, { on := 5, ground := Ground.phase }, { on := 6, ground := Ground.phase }, { on := 7, ground := Ground.phase }, { on := 8, ground := Ground.phase }], guard := none }) (v := ?_) rfl (by kernel_rfl) (by kernel_rfl) (by kernel_rfl) (fun _ _ _ h => h) (Or.inl ⟨by rfl, ?_⟩) (by assumption) ?_
                    rotate_left; · ((intro w hSw; (try dsimp only at hSw); go_simp); try with_reducible rfl)
                    try simp only [Act.put, List.setIfInBounds_toArray, List.set_cons_zero, List.set_cons_succ]
                    refine wpAnyH_done (by kernel_rfl) ?_ _
                    (go_wp2; refine bodyPost_ret (v := .tuple #[.agg #[.slice a9 k9 c9, .int .i64 (x + 1)], .int .i64 x, .int .i64 0]) (by have q0 : _ = some (Value.slice a9 k9 c9) := HBF.out.1.cell 0; have q1 : _ = some (Value.int .i64 (x + 1)) := HBF.out.2.cell 1; simp [results, Tryd.results16, go_sem, q0, q1]) rfl ?_; exact ⟨a9, k9, c9, V9, rfl, HV9.out, HPF.out, HKF.out⟩)
                  exact AllReadyH.nil
              · have hk3' : ((kf : Int) == 3) = false := by simp; omega
                have HS4 : Hid (SRow wr w3.heap.size (.slice a1 kf c1) V') := Lib.hid hs1
                have HM4 : Hid (Mt wr V' (pinL L now)) := Lib.hid (by unfold pinL; rw [← HMF.out.len, HKF0.out, if_neg hk3]; exact HMF.out)
                have HL4 : Hid (V'.length ≤ 1000) := Lib.hid (by rw [HKF0.out]; omega)
                clear hs1 hc1
                go_upto_region 11 with (fail)
                have HB04 := HB0
                have hrow0 : ((wr.drew).alloc (.cells #[] 9)).ownsRow (wr.drew).heap.size 9 1 (.slice (some ⟨(wr.drew).heap.size, 0, none⟩) 0 0) 0 [] := by
                  have := World.ownsRow_lit (base := (wr.drew).heap.size) (e := 9) (size := 1) (wr.drew) #[] 0 (Nat.le_refl _) (by unfold maxLen; omega) rfl
                  simpa using this
                have hka := ((Keeps.refl [] wr).drew).alloc (.cells #[] 9)
                obtain ⟨v5, w5, hr5, hown5, hg5⟩ := app_strs (ys := []) hrow0 (by simp) (HIS4.out.keeps hka) (by simp) 25
                rw [List.nil_append] at hown5
                obtain ⟨a5, c5, rfl, hst5⟩ := strs_of_row hown5 HIS4.out.small HIS4.out.size
                have hk5 : Keeps [] wr w5 := hka.grown hg5 (fun k hk => by
                  simp [Value.ownBlock] at hk
                  exact .inr (by omega))
                rw [HM.out] at hr5
                have HK5 := Lib.hid hk5
                have HST5 := Lib.hid hst5
                have hz4 : (wr.drew).heap.size = wr.heap.size := rfl
                rw [hz4] at hr5
                have HR5 := Lib.hid hr5
                clear hrow0 hka hr5 hown5 hg5 hst5 hk5 hz4
                obtain ⟨v9, w9, hrun, hs9, hk9⟩ := SRow.push ((HS4.out.keeps HK5.out).keeps ((Keeps.refl [] w5).alloc (.cells (SV.arr (⟨x, a5, m, c5, now⟩ : SV)) 39))) HL4.out (by have := HK5.out.size; have := HSB.out; simp; omega) w5.heap.size (⟨x, a5, m, c5, now⟩ : SV) (Blk.new w5 39 (SV.arr (⟨x, a5, m, c5, now⟩ : SV))) 22
                simp only [SV.arr] at hrun
                have HR9 := Lib.hid hrun
                have HS9 := Lib.hid hs9
                have HK9 := Lib.hid hk9
                clear hrun hs9 hk9
                have hss : ∀ w' : World, w'.heap[w.heap.size]? = wr.heap[w.heap.size]? → (w'.cell? ⟨w.heap.size, 1, none⟩ = some (.int .i64 x)) := fun w' h0 => (World.cell?_of_block (a := ⟨w.heap.size, 1, none⟩) h0).trans pn
                have hA := hss ((wr.drew).alloc (.cells #[] 9)) ((((Keeps.refl [] wr).drew).alloc (.cells #[] 9)).block _ HB0.out.lt (by simp))
                have hB := hss w5 (HK5.out.block _ HB0.out.lt (by simp))
                have hC := fun o => hss (w5.alloc o) ((HK5.out.alloc o).block _ HB0.out.lt (by simp))
                have hD := hss w9 ((HK9.out.low.block _ (by have := HSZ.out; omega)).trans ((HK5.out.alloc _).block _ HB0.out.lt (by simp)))
                have HSA := Lib.hid hA
                have HSB5 := Lib.hid hB
                have HSC := Lib.hid hC
                have HSD := Lib.hid hD
                have HPN := Lib.hid (hss wr.drew rfl)
                clear hss hA hB hC hD pn z0
                go_cut [9] (fun v wx => ∃ a9 k9 c9 V9, v = .slice a9 k9 c9 ∧ Hid (V9.length = k9) ∧ Hid (PoolV wx a9 c9 V9 ⟨pinL L now ++ [⟨x, xs, now⟩], x + 1⟩) ∧ Hid (Keeps [] w wx) ∧ Hid (Blk wx w.heap.size 24 #[.slice a k c, .int .i64 x]) ∧ Hid (Blk wx (w.heap.size + 1) 24 #[.slice none 0 0, .int .i64 0]))
                case first =>
                  refine wp_region_held_drew (S := (fun w' : World => w'.cell? ⟨w.heap.size, 1, none⟩ = some (.int .i64 x))) (by kernel_rfl) ?_ (fun hHeld => ?_)
                  · (try dsimp only); (first | exact HSD.out | exact HSC.out _ | exact HSB5.out | exact HSA.out | exact HPN.out)
                  refine wpAnyH_take (i := 0) (oi := { dst := some 60, op := Op.move (Operand.tmp 9), type := 22, pos := "ref.go:63", after := #[], guard := none }) (v := ?_) rfl (by kernel_rfl) (by kernel_rfl) (by kernel_rfl) (fun _ _ _ h => h) (Or.inl ⟨by rfl, ?_⟩) (by assumption) ?_
                  rotate_left; · ((intro w hSw; (try dsimp only at hSw); go_simp); try with_reducible rfl)
                  try simp only [Act.put, List.setIfInBounds_toArray, List.set_cons_zero, List.set_cons_succ]
                  refine wpAnyH_take (i := 1) (oi := { dst := some 61, op := Op.fieldAddr 24 (Operand.tmp 3) 1, type := 0, pos := "ref.go:63", after := #[], guard := none }) (v := ?_) rfl (by kernel_rfl) (by kernel_rfl) (by kernel_rfl) (fun _ _ _ h => h) (Or.inl ⟨by rfl, ?_⟩) (by assumption) ?_
                  rotate_left; · ((intro w hSw; (try dsimp only at hSw); go_simp); try with_reducible rfl)
                  try simp only [Act.put, List.setIfInBounds_toArray, List.set_cons_zero, List.set_cons_succ]
                  refine wpAnyH_take (i := 2) (oi := { dst := some 62, op := Op.load 3 (Operand.tmp 61), type := 3, pos := "ref.go:63", after := #[{ on := 1, ground := Ground.data }], guard := none }) (v := ?_) rfl (by kernel_rfl) (by kernel_rfl) (by kernel_rfl) (fun _ _ _ h => h) (Or.inl ⟨by rfl, ?_⟩) (by assumption) ?_
                  rotate_left; · ((intro w hSw; (try dsimp only at hSw); go_simp); try with_reducible rfl)
                  try simp only [Act.put, List.setIfInBounds_toArray, List.set_cons_zero, List.set_cons_succ]
                  refine wpAnyH_take (i := 4) (oi := { dst := some 64, op := Op.move (Operand.tmp 1), type := 25, pos := "ref.go:63", after := #[], guard := none }) (v := ?_) rfl (by kernel_rfl) (by kernel_rfl) (by kernel_rfl) (fun _ _ _ h => h) (Or.inl ⟨by rfl, ?_⟩) (by assumption) ?_
                  rotate_left; · ((intro w hSw; (try dsimp only at hSw); go_simp); try with_reducible rfl)
                  try simp only [Act.put, List.setIfInBounds_toArray, List.set_cons_zero, List.set_cons_succ]
                  refine wpAnyH_take (i := 6) (oi := { dst := some 66, op := Op.move (Operand.tmp 2), type := 3, pos := "ref.go:63", after := #[], guard := none }) (v := ?_) rfl (by kernel_rfl) (by kernel_rfl) (by kernel_rfl) (fun _ _ _ h => h) (Or.inl ⟨by rfl, ?_⟩) (by assumption) ?_
                  rotate_left; · ((intro w hSw; (try dsimp only at hSw); go_simp); try with_reducible rfl)
                  try simp only [Act.put, List.setIfInBounds_toArray, List.set_cons_zero, List.set_cons_succ]
                  refine wpAnyH_ready (rs := [3]) (by kernel_rfl) (by simp) ?_
                  refine AllReadyH.cons rfl (fun K hK => ?_) ?_
                  · go_simp
                    refine hK.out _ _ ?_ (fun hHeld => ?_)
                    · (try dsimp only); (first | exact HSD.out | exact HSC.out _ | exact HSB5.out | exact HSA.out | exact HPN.out)
                    clear hK K
                    try simp only [Act.put, List.setIfInBounds_toArray, List.set_cons_zero, List.set_cons_succ]
                    refine wpAnyH_ready (rs := [5]) (by kernel_rfl) (by simp) ?_
                    refine AllReadyH.cons rfl (fun K hK => ?_) ?_
                    · skip
                      (first | (refine wp_append_run _ _ 25 (by rfl) (by rfl) (by rfl) (by rfl) HR5.out ?_) | (refine wp_append_run _ _ 22 (by rfl) (by rfl) (by rfl) (by rfl) HR9.out ?_))
                      refine hK.out _ _ ?_ (fun hHeld => ?_)
                      · (try dsimp only); (first | exact HSD.out | exact HSC.out _ | exact HSB5.out | exact HSA.out | exact HPN.out)
                      clear hK K
                      try simp only [Act.put, List.setIfInBounds_toArray, List.set_cons_zero, List.set_cons_succ]
                      refine wpAnyH_take (i := 7) (oi := { dst := some 67, op := Op.build 39 #[(0, Operand.tmp 62), (1, Operand.tmp 65), (2, Operand.tmp 66)], type := 39, pos := "ref.go:63", after := #[{ on := 2, ground := Ground.data }, { on := 5, ground := Ground.data }, { on := 6, ground := Ground.data }], guard := none }) (v := ?_) rfl (by kernel_rfl) (by kernel_rfl) (by kernel_rfl) (fun _ _ _ h => h) (Or.inl ⟨by rfl, ?_⟩) (by assumption) ?_
                      rotate_left; · ((intro w hSw; (try dsimp only at hSw); go_simp); try with_reducible rfl)
                      try simp only [Act.put, List.setIfInBounds_toArray, List.set_cons_zero, List.set_cons_succ]
                      refine wpAnyH_ready (rs := [8]) (by kernel_rfl) (by simp) ?_
                      refine AllReadyH.cons rfl (fun K hK => ?_) ?_
                      · go_simp
                        refine hK.out _ _ ?_ (fun hHeld => ?_)
                        · (try dsimp only); (first | exact HSD.out | exact HSC.out _ | exact HSB5.out | exact HSA.out | exact HPN.out)
                        clear hK K
                        try simp only [Act.put, List.setIfInBounds_toArray, List.set_cons_zero, List.set_cons_succ]
                        refine wpAnyH_ready (rs := [9]) (by kernel_rfl) (by simp) ?_
                        refine AllReadyH.cons rfl (fun K hK => ?_) ?_
                        · skip
                          (first | (refine wp_append_run _ _ 25 (by rfl) (by rfl) (by rfl) (by rfl) HR5.out ?_) | (refine wp_append_run _ _ 22 (by rfl) (by rfl) (by rfl) (by rfl) HR9.out ?_))
                          refine hK.out _ _ ?_ (fun hHeld => ?_)
                          · (try dsimp only); (first | exact HSD.out | exact HSC.out _ | exact HSB5.out | exact HSA.out | exact HPN.out)
                          clear hK K
                          try simp only [Act.put, List.setIfInBounds_toArray, List.set_cons_zero, List.set_cons_succ]
                          refine wpAnyH_take (i := 10) (oi := { dst := some 9, op := Op.assign (Operand.tmp 69), type := 22, pos := "ref.go:63", after := #[{ on := 9, ground := Ground.data }, { on := 9, ground := Ground.chain }, { on := 0, ground := Ground.phase }, { on := 1, ground := Ground.phase }, { on := 2, ground := Ground.phase }, { on := 3, ground := Ground.phase }, { on := 4, ground := Ground.phase }, { on := 5, ground := Ground.phase }, { on := 6, ground := Ground.phase }, { on := 7, ground := Ground.phase }, { on := 8, ground := Ground.phase }, { on := 9, ground := Ground.phase }], guard := none }) (v := ?_) rfl (by kernel_rfl) (by kernel_rfl) (by kernel_rfl) (fun _ _ _ h => h) (Or.inl ⟨by rfl, ?_⟩) (by assumption) ?_
                          rotate_left; · ((intro w hSw; (try dsimp only at hSw); go_simp); try with_reducible rfl)
                          try simp only [Act.put, List.setIfInBounds_toArray, List.set_cons_zero, List.set_cons_succ]
                          refine wpAnyH_done (by kernel_rfl) ?_ _
                          (go_wp2_with (fail); go_meet; exact pin_fin16 HS9.out HK9.out (HM4.out.keeps (HK5.out.alloc _)) (HST5.out.keeps ((Keeps.refl [] w5).alloc _)) HM.out HL4.out ((HK4.out.trans HK5.out).alloc _) ((HB0.out.keeps HK5.out (by simp)).alloc _) ((HB2.out.keeps HK5.out (by simp)).alloc _) HSZ.out)
                        exact AllReadyH.nil
                      exact AllReadyH.nil
                    exact AllReadyH.nil
                  exact AllReadyH.nil
                case rest =>
                  obtain ⟨a9, k9, c9, V9, rfl, HV9, HP9, HK9, HB09, HB29⟩ := hcut
                  have pn : wc.cell? ⟨w.heap.size, 1, none⟩ = some (.int .i64 x) := HB09.out.cell 1
                  have q0 : wc.cell? ⟨w.heap.size + 1, 0, none⟩ = some (.slice none 0 0) := HB29.out.cell 0
                  have q1 : wc.cell? ⟨w.heap.size + 1, 1, none⟩ = some (.int .i64 0) := HB29.out.cell 1
                  have f0 := HB29.out.frozen 0
                  have f1 := HB29.out.frozen 1
                  have hwx : IntKind.i64.wrap (x + 1) = x + 1 := IntWalk.i64_in _ (by omega)
                  have hw1 : ∀ u v, ((wc.drew.setCell ⟨w.heap.size + 1, 0, none⟩ u).setCell ⟨w.heap.size + 1, 1, none⟩ v).cell? ⟨w.heap.size, 1, none⟩ = some (.int .i64 x) := fun u v => (((HB09.out.drew).far (p := ⟨w.heap.size + 1, 0, none⟩) (by dsimp only; omega) u).far (p := ⟨w.heap.size + 1, 1, none⟩) (by dsimp only; omega) v).cell 1
                  have HW1 := Lib.hid hw1
                  have HBF := Lib.hid (And.intro (HB29.out.set_ 0 (.slice a9 k9 c9)) ((HB29.out.set_ 0 (.slice a9 k9 c9)).set_ 1 (.int .i64 (x + 1))))
                  have HKF := Lib.hid ((HK9.out.drew.setCell (p := ⟨w.heap.size + 1, 0, none⟩) (.inr (by dsimp only; omega)) (.slice a9 k9 c9)).setCell (p := ⟨w.heap.size + 1, 1, none⟩) (.inr (by dsimp only; omega)) (.int .i64 (x + 1)))
                  have HPF := Lib.hid ((HP9.out.keepsS (Keeps.drew (Keeps.refl [w.heap.size + 1] wc) |>.setCell (p := ⟨w.heap.size + 1, 0, none⟩) (.inl (by simp)) (.slice a9 k9 c9) |>.setCell (p := ⟨w.heap.size + 1, 1, none⟩) (.inl (by simp)) (.int .i64 (x + 1))) (fun k hk => by simp at hk; subst hk; exact ⟨_, HB29.out, by decide, by decide⟩)))
                  clear hw1
                  go_wp2_with (fail)
                  refine wp_region_held_drew (S := (fun w' : World => w'.cell? ⟨w.heap.size, 1, none⟩ = some (.int .i64 x))) (by kernel_rfl) ?_ (fun hHeld => ?_)
                  · (try dsimp only); (first | exact HW1.out _ _ | exact pn)
                  refine wpAnyH_take (i := 0) (oi := { dst := some 70, op := Op.move (Operand.tmp 9), type := 22, pos := "ref.go:64", after := #[], guard := none }) (v := ?_) rfl (by kernel_rfl) (by kernel_rfl) (by kernel_rfl) (fun _ _ _ h => h) (Or.inl ⟨by rfl, ?_⟩) (by assumption) ?_
                  rotate_left; · ((intro w hSw; (try dsimp only at hSw); go_simp); try with_reducible rfl)
                  try simp only [Act.put, List.setIfInBounds_toArray, List.set_cons_zero, List.set_cons_succ]
                  refine wpAnyH_take (i := 1) (oi := { dst := some 71, op := Op.fieldAddr 24 (Operand.tmp 3) 1, type := 0, pos := "ref.go:64", after := #[], guard := none }) (v := ?_) rfl (by kernel_rfl) (by kernel_rfl) (by kernel_rfl) (fun _ _ _ h => h) (Or.inl ⟨by rfl, ?_⟩) (by assumption) ?_
                  rotate_left; · ((intro w hSw; (try dsimp only at hSw); go_simp); try with_reducible rfl)
                  try simp only [Act.put, List.setIfInBounds_toArray, List.set_cons_zero, List.set_cons_succ]
                  refine wpAnyH_take (i := 2) (oi := { dst := some 72, op := Op.load 3 (Operand.tmp 71), type := 3, pos := "ref.go:64", after := #[{ on := 1, ground := Ground.data }], guard := none }) (v := ?_) rfl (by kernel_rfl) (by kernel_rfl) (by kernel_rfl) (fun _ _ _ h => h) (Or.inl ⟨by rfl, ?_⟩) (by assumption) ?_
                  rotate_left; · ((intro w hSw; (try dsimp only at hSw); go_simp); try with_reducible rfl)
                  try simp only [Act.put, List.setIfInBounds_toArray, List.set_cons_zero, List.set_cons_succ]
                  refine wpAnyH_take (i := 3) (oi := { dst := some 73, op := Op.binOp BinOp.add 3 (Operand.tmp 72) (Operand.const (Value.int IntKind.i64 1)) 3, type := 3, pos := "ref.go:64", after := #[{ on := 2, ground := Ground.data }], guard := none }) (v := ?_) rfl (by kernel_rfl) (by kernel_rfl) (by kernel_rfl) (fun _ _ _ h => h) (Or.inl ⟨by rfl, ?_⟩) (by assumption) ?_
                  rotate_left; · ((intro w hSw; (try dsimp only at hSw); go_simp); try with_reducible rfl)
                  try simp only [Act.put, List.setIfInBounds_toArray, List.set_cons_zero, List.set_cons_succ]
                  refine wpAnyH_take (i := 4) (oi := { dst := some 74, op := Op.build 24 #[(0, Operand.tmp 70), (1, Operand.tmp 73)], type := 24, pos := "ref.go:64", after := #[{ on := 0, ground := Ground.data }, { on := 3, ground := Ground.data }], guard := none }) (v := ?_) rfl (by kernel_rfl) (by kernel_rfl) (by kernel_rfl) (fun _ _ _ h => h) (Or.inl ⟨by rfl, ?_⟩) (by assumption) ?_
                  rotate_left; · ((intro w hSw; (try dsimp only at hSw); go_simp); try with_reducible rfl)
                  try simp only [Act.put, List.setIfInBounds_toArray, List.set_cons_zero, List.set_cons_succ]
                  refine wpAnyH_take (i := 5) (oi := { dst := some 75, op := Op.fieldAddr 24 (Operand.tmp 3) 1, type := 0, pos := "ref.go:64", after := #[{ on := 7, ground := Ground.gcOnly Departure.lateStores }], guard := none }) (v := ?_) rfl (by kernel_rfl) (by kernel_rfl) (by kernel_rfl) (fun _ _ _ h => h) (Or.inl ⟨by rfl, ?_⟩) (by assumption) ?_
                  rotate_left; · ((intro w hSw; (try dsimp only at hSw); go_simp); try with_reducible rfl)
                  try simp only [Act.put, List.setIfInBounds_toArray, List.set_cons_zero, List.set_cons_succ]
                  refine wpAnyH_take (i := 6) (oi := { dst := some 76, op := Op.load 3 (Operand.tmp 75), type := 3, pos := "ref.go:64", after := #[{ on := 5, ground := Ground.data }, { on := 7, ground := Ground.gcOnly Departure.lateStores }], guard := none }) (v := ?_) rfl (by kernel_rfl) (by kernel_rfl) (by kernel_rfl) (fun _ _ _ h => h) (Or.inl ⟨by rfl, ?_⟩) (by assumption) ?_
                  rotate_left; · ((intro w hSw; (try dsimp only at hSw); go_simp); try with_reducible rfl)
                  try simp only [Act.put, List.setIfInBounds_toArray, List.set_cons_zero, List.set_cons_succ]
                  refine wpAnyH_ready (rs := [7]) (by kernel_rfl) (by simp) ?_
                  refine AllReadyH.cons rfl (fun K hK => ?_) ?_
                  · go_simp
                    refine hK.out _ _ ?_ (fun hHeld => ?_)
                    · (try dsimp only); (first | exact HW1.out _ _ | exact pn)
                    clear hK K
                    try simp only [Act.put, List.setIfInBounds_toArray, List.set_cons_zero, List.set_cons_succ]
                    refine wpAnyH_take (i := 8) (oi := { dst := some 7, op := Op.assign (Operand.tmp 76), type := 3, pos := "ref.go:64", after := #[{ on := 6, ground := Ground.data }, { on := 7, ground := Ground.chain }, { on := 0, ground := Ground.phase }, { on := 1, ground := Ground.phase }, { on := 2, ground := Ground.phase }, { on := 3, ground := Ground.phase }, { on := 4, ground := Ground.phase }, { on := 5, ground := Ground.phase }, { on := 6, ground := Ground.phase }, { on := 7, ground := Ground.phase }], guard := none }) (v := ?_) rfl (by kernel_rfl) (by kernel_rfl) (by kernel_rfl) (fun _ _ _ h => h) (Or.inl ⟨by rfl, ?_⟩) (by assumption) ?_
                    rotate_left; · ((intro w hSw; (try dsimp only at hSw); go_simp); try with_reducible rfl)
                    try simp only [Act.put, List.setIfInBounds_toArray, List.set_cons_zero, List.set_cons_succ]
                    refine wpAnyH_take (i := 9) (oi := { dst := some 8, op := Op.assign (Operand.const (Value.int IntKind.i64 0)), type := 30, pos := "ref.go:64", after := #[{ on := 8, ground := Ground.chain }, { on := 0, ground := Ground.phase }, { on := 1, ground := Ground.phase }, { on := 2, ground := Ground.phase }, { on := 3, ground := Ground.phase }, { on := 4, ground := Ground.phase }, { on := 5, ground := Ground.phase }, { on := 6, ground := Ground.phase }, { on := 7, ground := Ground.phase }, { on := 8, ground := Ground.phase }], guard := none }) (v := ?_) rfl (by kernel_rfl) (by kernel_rfl) (by kernel_rfl) (fun _ _ _ h => h) (Or.inl ⟨by rfl, ?_⟩) (by assumption) ?_
                    rotate_left; · ((intro w hSw; (try dsimp only at hSw); go_simp); try with_reducible rfl)
                    try simp only [Act.put, List.setIfInBounds_toArray, List.set_cons_zero, List.set_cons_succ]
                    refine wpAnyH_done (by kernel_rfl) ?_ _
                    (go_wp2; refine bodyPost_ret (v := .tuple #[.agg #[.slice a9 k9 c9, .int .i64 (x + 1)], .int .i64 x, .int .i64 0]) (by have q0 : _ = some (Value.slice a9 k9 c9) := HBF.out.1.cell 0; have q1 : _ = some (Value.int .i64 (x + 1)) := HBF.out.2.cell 1; simp [results, Tryd.results16, go_sem, q0, q1]) rfl ?_; exact ⟨a9, k9, c9, V9, rfl, HV9.out, HPF.out, HKF.out⟩)
                  exact AllReadyH.nil
end Go.Proofs.YtbcppmcjbcnlbaaDoor
