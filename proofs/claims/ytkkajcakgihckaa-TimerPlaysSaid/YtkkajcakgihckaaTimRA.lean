/- The document's timer in memory; its New, Find, Next, Keys. -/
import Derived.Test.YtkkajcakgihckaaTlA
namespace Go.Proofs.Ytkkajcakgihckaa
open Go.RowKit Go.Shelf
attribute [local go_sem] Oper.semAt_some
attribute [local go_sem ↓] Go.wp_at_zero Go.wp_at_succ

/-- A slice of these keys, in block g. -/
def KeysAt (w : World) (g : Nat) (v : Value) (L : List Ke) : Prop :=
  ∃ (a : Option Addr) (c : Nat), v = .slice a L.length c ∧ L.length ≤ c ∧ (0 < L.length → ∃ off, a = some ⟨g, off, none⟩ ∧ g < w.heap.size ∧
    ∀ i (h : i < L.length), w.cell? ⟨g, off + i * 2, none⟩ = some (.int .i64 L[i].key) ∧ w.cell? ⟨g, off + i * 2 + 1, none⟩ = some (.int .i64 L[i].at_))
/-- The document's timer at t holds L; its row lies in g. -/
structure RtA (w : World) (t g : Nat) (v : Value) (L : List Ke) : Prop where
  head : Blk w t 58 #[v]
  ks : KeysAt w g v L
  ne : 0 < L.length → g ≠ t
  max : L.length ≤ 64

theorem KeysAt.keeps {w w' : World} {S : List Nat} {g : Nat} {v : Value} {L : List Ke} (h : KeysAt w g v L) (hk : Keeps S w w') (hg : g ∉ S) : KeysAt w' g v L := by
  obtain ⟨a, c, rfl, hc, h2⟩ := h
  refine ⟨a, c, rfl, hc, fun h0 => ?_⟩
  obtain ⟨off, ha, hl, hcell⟩ := h2 h0
  exact ⟨off, ha, Nat.lt_of_lt_of_le hl hk.size, fun i hi => ⟨(hk.cell (p := ⟨g, off + i * 2, none⟩) hl hg).trans (hcell i hi).1, (hk.cell (p := ⟨g, off + i * 2 + 1, none⟩) hl hg).trans (hcell i hi).2⟩⟩
theorem RtA.keeps {w w' : World} {S : List Nat} {t g : Nat} {v : Value} {L : List Ke} (h : RtA w t g v L) (hk : Keeps S w w') (ht : t ∉ S) (hg : g ∉ S) : RtA w' t g v L :=
  ⟨h.head.keeps hk ht, h.ks.keeps hk hg, h.ne, h.max⟩

theorem rTnew_any (w : World) : Calls Try.prog 12 #[] w fun e w' => e = .returned (.pointer (some ⟨w.heap.size, 0, none⟩)) ∧ RtA w' w.heap.size w.heap.size (.slice none 0 0) [] ∧ Keeps [] w w' := by
  go_enter Try.func12, Try.ntmps12
  go_wp2
  go_ret
  exact ⟨rfl, ⟨Blk.new w _ _, ⟨none, 0, rfl, Nat.le_refl _, fun h => by simp at h⟩, fun h => by simp at h, by simp⟩, (Keeps.refl [] w).alloc _⟩

theorem find_take_some {x : Ke} {key : Int} (hk : x.key = key) : ∀ {L : List Ke} {j : Nat}, findL (L.take j) key = none → L[j]? = some x → findL L key = some x.at_
  | [], j, _, hx => by simp at hx
  | y :: l, 0, _, hx => by
    obtain rfl : y = x := by simpa using hx
    simp [findL, hk]
  | y :: l, j + 1, h, hx => by
    rw [List.take_succ_cons, findL_none] at h
    have h1 := h y List.mem_cons_self
    have h2 : findL (l.take j) key = none := findL_none.2 fun k hk' => h k (List.mem_cons_of_mem _ hk')
    have h3 := find_take_some hk h2 (by simpa using hx)
    unfold findL at h3 ⊢
    rw [List.find?_cons, show (y.key == key) = false by simpa using h1]
    exact h3
theorem find_take_none {L : List Ke} {j : Nat} {x : Ke} {key : Int} (h : findL (L.take j) key = none) (hx : L[j]? = some x) (hk : x.key ≠ key) : findL (L.take (j + 1)) key = none := by
  rw [take_snoc hx]
  rw [findL_none] at h ⊢
  intro k hk'
  rcases List.mem_append.1 hk' with h1 | h1
  · exact h k h1
  · simp only [List.mem_singleton] at h1; subst h1; exact hk

set_option maxRecDepth 100000 in
set_option maxHeartbeats 1000000 in
theorem rTfind_any (t g : Nat) (v : Value) (L : List Ke) (key : Int) (o : Option Int) (ho : findL L key = o) (w : World) (h : RtA w t g v L) :
    Calls Try.prog 27 #[.pointer (some ⟨t, 0, none⟩), .int .i64 key] w fun e w' => e = .returned (.tuple #[.int .i64 (o.getD 0), .bool o.isSome]) ∧ w = w' := by
  have c0 := h.head.cell 0
  simp at c0
  have hmax := h.max
  obtain ⟨a, c, rfl, hcc, hk⟩ := h.ks
  obtain ⟨N, hN⟩ : ∃ N, L.length = N := ⟨_, rfl⟩
  rw [hN] at c0 hmax hcc
  have HK := Lib.hid hk
  have HN := Lib.hid hN
  have HO := Lib.hid ho
  clear hk hN h ho
  go_enter Try.func27, Try.ntmps27
  go_wp2
  go_loop [6] (fun i => ∃ j : Nat, j ≤ N ∧ i = .int .i64 j ∧ Hid (findL (L.take j) key = none)) (fun i => N - (intOf i).toNat)
  case atStart => exact ⟨0, Nat.zero_le _, rfl, Lib.hid rfl⟩
  case round =>
    obtain ⟨j, hj, rfl, HF⟩ := hrel
    by_cases hjl : j < N
    · have hjL : j < L.length := by rw [HN.out]; exact hjl
      obtain ⟨off, rfl, hg, hcl⟩ := HK.out (by omega)
      obtain ⟨x, hx⟩ : ∃ x, L[j]? = some x := ⟨_, List.getElem?_eq_getElem hjL⟩
      have hxe : L[j] = x := by rw [List.getElem?_eq_getElem hjL] at hx; injection hx
      obtain ⟨h1, h2⟩ := hcl j hjL
      rw [hxe] at h1 h2
      have j1 : (0 : Int) ≤ (j : Int) := by omega
      have j2 : (j : Int) < (N : Int) := by omega
      by_cases he : x.key = key
      · have hb : (x.key == key) = true := by simpa using he
        have hf := find_take_some he HF.out hx
        rw [HO.out] at hf
        subst hf
        clear hx hxe hcl hjL
        go_wp2
        go_ret2
        exact ⟨rfl, rfl⟩
      · have hb : (x.key == key) = false := by simpa using he
        have HF2 := Lib.hid (find_take_none HF.out hx he)
        clear hx hxe hcl hjL he
        go_wp2
        go_round
        case rel => exact ⟨j + 1, by omega, by go_num, HF2⟩
        case measure => simp [intOf]; omega
    · obtain rfl : j = N := by omega
      have hf := HF.out
      rw [List.take_of_length_le (by rw [HN.out]; exact Nat.le_refl _), HO.out] at hf
      subst hf
      go_wp2
      go_ret2
      exact ⟨rfl, rfl⟩

set_option maxRecDepth 100000 in
set_option maxHeartbeats 1000000 in
theorem rTnext_any (t g : Nat) (v : Value) (L : List Ke) (r : Int × Int × Bool) (hr : nextL L = r) (w : World) (h : RtA w t g v L) :
    Calls Try.prog 16 #[.pointer (some ⟨t, 0, none⟩)] w fun e w' => e = .returned (.tuple #[.int .i64 r.1, .int .i64 r.2.1, .bool r.2.2]) ∧ Keeps [] w w' := by
  have c0 := h.head.cell 0
  simp at c0
  subst hr
  obtain ⟨a, c, rfl, hcc, hk⟩ := h.ks
  cases L with
  | nil =>
    simp only [nextL]
    clear hk h
    go_enter Try.func16, Try.ntmps16
    go_wp2
    refine bodyPost_ret (v := .tuple #[.int .i64 0, .int .i64 0, .bool false]) (by simp [results, Try.results16, go_sem]) rfl ?_
    exact ⟨rfl, Keeps.refl _ _⟩
  | cons x l =>
    obtain ⟨off, rfl, hg, hcl⟩ := hk (by simp)
    obtain ⟨h1, h2⟩ := hcl 0 (by simp)
    simp at h1 h2
    obtain ⟨N, hN⟩ : ∃ N, (x :: l).length = N := ⟨_, rfl⟩
    rw [hN] at c0
    have hN0 : 0 < N := by rw [← hN]; simp
    have i1 : (0 : Int) < (N : Int) := by omega
    have i2 : ((N : Int) == 0) = false := by simp; omega
    have i3 : ¬ N = 0 := by omega
    simp only [nextL]
    clear hcl hk h hN hcc
    go_enter Try.func16, Try.ntmps16
    go_wp2
    go_quiet (fail)
    go_wp2
    refine bodyPost_ret (v := .tuple #[.int .i64 x.key, .int .i64 x.at_, .bool true]) (by simp [results, Try.results16, go_sem]) rfl ?_
    exact ⟨rfl, (Keeps.refl _ _).drewN _⟩

set_option maxRecDepth 100000 in
set_option maxHeartbeats 2000000 in
theorem rTkeys_any (t g : Nat) (v : Value) (L : List Ke) (ys : List Int) (hys : keysL L = ys) (w : World) (h : RtA w t g v L) :
    Calls Try.prog 19 #[.pointer (some ⟨t, 0, none⟩)] w fun e w' => (∃ v, e = .returned v ∧ NewI w' w.heap.size v ys) ∧ Keeps [] w w' := by
  obtain ⟨i0, hi, hz0, hz1, hz2⟩ := info_parts tint_info10
  have HYS := Lib.hid hys
  have c0 := h.head.cell 0
  simp at c0
  have hmax := h.max
  obtain ⟨a, c, rfl, hcc, hk⟩ := h.ks
  obtain ⟨M, hM⟩ : ∃ M, L.length = M := ⟨_, rfl⟩
  have HM := Lib.hid hM
  have HC := Lib.hid hk
  have htl := h.head.lt
  rw [hM] at c0 hmax hcc
  clear hys h hk hM
  have HC0 := Lib.hid c0
  go_enter Try.func19, Try.ntmps19
  go_wp2
  go_loopw [3, 4] (fun v i wr => ∃ k : Nat, k ≤ M ∧ i = .int .i64 k ∧ Hid (NewI wr w.heap.size v (ys.take k)) ∧ Hid (Keeps [] w wr)) (fun _ i _ => M - (intOf i).toNat)
  case atStart => exact ⟨0, Nat.zero_le _, rfl, Lib.hid (World.ownsRow_nil _ _ _ _), Lib.hid (Keeps.refl _ _)⟩
  case round =>
    obtain ⟨k, hk, rfl, HR, HK⟩ := hrel
    have c1 : wr.cell? ⟨t, 0, none⟩ = some (.slice a M c) := (HK.out.cell (p := ⟨t, 0, none⟩) htl (by simp)).trans HC0.out
    clear c0
    by_cases hlt : k < M
    · have hkL : k < L.length := by rw [HM.out]; exact hlt
      obtain ⟨off, rfl, hg, hcl⟩ := HC.out (by omega)
      have h1 := (hcl k hkL).1
      obtain ⟨z, hz⟩ : ∃ z, (L[k]).key = z := ⟨_, rfl⟩
      rw [hz] at h1
      have q1 : wr.cell? ⟨g, off + k * 2, none⟩ = some (.int .i64 z) := (HK.out.cell (p := ⟨g, off + k * 2, none⟩) hg (by simp)).trans h1
      have i1 : (0 : Int) ≤ (k : Int) := by omega
      have i2 : (k : Int) < (M : Int) := by omega
      have hyl : ys.length = M := by rw [← HYS.out]; unfold keysL; rw [List.length_map, HM.out]
      have hyk : ys[k]? = some z := by rw [← HYS.out]; unfold keysL; rw [List.getElem?_map, List.getElem?_eq_getElem hkL]; exact congrArg some hz
      have htk := take_snoc hyk
      have hln : (ys.take k).length = k := by rw [List.length_take]; omega
      have hsz := HK.out.size
      have HTK := Lib.hid htk
      have HLN := Lib.hid hln
      have hrow : wr.ownsRow w.heap.size 3 1 u3 k ((ys.take k).map (Value.int .i64)) := by
        have h5 := HR.out
        unfold NewI at h5
        rw [hln] at h5
        exact h5
      have HRW := Lib.hid hrow
      clear h1 hz htk hln hrow hkL hcl hyk hyl hg
      go_wp2_with (at_builtin; refine wpList_append_lies _ rfl _ _ _ (by rfl) w.heap.size 3 i0 _ 1 8 Try.underlying32 hi hz0 hz1 hz2 rfl (by omega) u3 k _ (by rfl) (World.ownsRow.alloc HRW.out _) ⟨wr.heap.size, 0, none⟩ 1 1 _ (by rfl) (by rfl) (World.news_of_block (heap_alloc_new _ _)) (by simp [Value.oneCell']) (by omega) (by unfold maxLen; omega) (by omega) (by simp; omega) (wr.heap.size + 1) (by simp) ?_; intro g2 cap2 w4 hown1 hgrow hat hlt2)
      go_roundw
      case rel =>
        refine ⟨k + 1, by omega, by go_num, Lib.hid ?_, Lib.hid ?_⟩
        · unfold NewI
          rw [HTK.out, List.map_append, List.length_append, HLN.out]
          exact hown1
        · exact (HK.out.alloc _).grown hgrow (fun j hj => by
            have := HR.out.block j hj
            right; omega)
      case measure => simp [intOf]; omega
    · obtain rfl : k = M := by omega
      go_wp2
      go_ret
      have hyl : ys.length = k := by rw [← HYS.out]; unfold keysL; rw [List.length_map, HM.out]
      have hrw := HR.out
      rw [List.take_of_length_le (by omega)] at hrw
      exact ⟨⟨_, rfl, hrw⟩, HK.out⟩
end Go.Proofs.Ytkkajcakgihckaa
